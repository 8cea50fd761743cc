/- A part of the proofs about chapter 7 (image): contracts of functions and plain laws (V54, VC, V96, PlanC, V97, V98, ShelfB, W88, W89, W90, V99, V100, PTx3, V101). -/
import Derived.Shelf.Strings.Builder1
import Derived.Shelf.Strings.Builder2
import Derived.Shelf.Strings.OnBuilder
import Derived.Shelf.Small.Strs
import Derived.Shelf.Small.Wraps
import Derived.Shelf.Strings.BuilderF
import Derived.Shelf.Strings.BuilderK
import Derived.Shelf.Utf8.RuneCount
import Derived.Shelf.Strings.Builder2Cap
import Derived.Shelf.Strconv.Itoa0
import Derived.Shelf.Strconv.Itoa1
import Derived.Shelf.LaysM
import Derived.Shelf.Strconv.Itoa2
import Derived.Shelf.Strconv.Itoa3
import Derived.Shelf.Strings.Search1
import Derived.Shelf.Strings.Search2
import Derived.Shelf.Strings.Search3
import Derived.Shelf.Strings.Count
import Derived.Shelf.Strings.Shaped
import Derived.Shelf.Strings.Prefix
import Derived.Shelf.Strings.Split
import Derived.Shelf.Strings.SplitShaped
import Derived.Shelf.Unicode.Decode
import Derived.Shelf.Strings.RuneCount
import Derived.Shelf.Strings.Explode
import Derived.Shelf.Bits.Mul64
import Derived.Shelf.Unicode.DecodeSlow
import Derived.Shelf.Unicode.DecodeAny
import Derived.Shelf.Slices.Equal
import Derived.Ground.Names2Prog
import Derived.Shelf.Slices.Clone
import Derived.Shelf.Slices.SearchI
import Derived.Shelf.Slices.Empties2
import Derived.Ground.SlgnProg
import Derived.Shelf.SlicesE.Clone
import Derived.Test.YtdimmlljjmmdbaaGreatDoorProg
import Derived.RangeFuncNested
import Derived.RangeFuncBound
import Derived.RangeFuncCalls
import Derived.RangeFuncLeaves
import Derived.Shelf.Abstract
import Derived.Shelf.RegionOpen
import Derived.OwnWalkIn
import Derived.TacticsInMore
import Derived.LoopNIn
import Derived.LoopIn
import Derived.BigRegion
import Derived.Test.YtdimmlljjmmdbaaGreatDoorZ15a
import Derived.Test.YtdimmlljjmmdbaaGreatDoorZ15b
import Derived.Test.YtdimmlljjmmdbaaGreatDoorZ15d
import Derived.Test.YtdimmlljjmmdbaaGreatDoorZ15f
import Derived.Test.YtdimmlljjmmdbaaGreatDoorZ15g
import Derived.Test.YtdimmlljjmmdbaaGreatDoorZ15i
set_option linter.all false
namespace Go.Proofs.YtdimmlljjmmdbaaGreatDoor
open Go.RowKit Go.Shelf
set_option maxHeartbeats 8000000
set_option maxRecDepth 100000
theorem c20 (c r : Int) (A : Option Addr) (n cap : Nat) (l : List Int) (w : World) (hl : n ≤ 1000000) (H : RdI w A n l) :
  Calls Tryz.prog 20 #[.agg #[.int .i64 c, .int .i64 r, .slice A n cap]] w fun en w' => ∃ B cb, en = .returned (.agg #[.int .i64 c, .int .i64 r, .slice B n cb]) ∧ RdI w' B n l ∧ n ≤ cb ∧ cb ≤ 9223372036854775807 ∧ Below w.heap.size w w' := by
 obtain ⟨w0, hW⟩ : ∃ W, W = (w.alloc (Obj.cells #[.int .i64 c, .int .i64 r, .slice A n cap] 24)).alloc (Obj.cells #[.int .i64 0, .int .i64 0, .slice none 0 0] 35) := ⟨_, rfl⟩
 have hT0 : w0.heap[w.heap.size]? = some (.cells #[.int .i64 c, .int .i64 r, .slice A n cap] 24 (0, 0)) := by rw [hW]; exact heap_old (by simp) (heap_new rfl)
 have hT1 : w0.heap[w.heap.size + 1]? = some (.cells #[.int .i64 0, .int .i64 0, .slice none 0 0] 35 (0, 0)) := by rw [hW]; exact heap_new (by simp)
 have hB0 : Below w.heap.size w w0 := by rw [hW]; exact below2 _ _ _
 have H0 := H.below hB0
 have hsz := hB0.size
 clear H
 go_enter Tryz.func20, Tryz.ntmps20
 go_wp2_with fail
 rw [← hW]
 clear hW
 have q0 : w0.cell? ⟨w.heap.size, 0, none⟩ = some (.int .i64 c) := cell_at hT0 rfl
 have q1 : w0.cell? ⟨w.heap.size, 1, none⟩ = some (.int .i64 r) := cell_at hT0 rfl
 have q2 : w0.cell? ⟨w.heap.size, 2, none⟩ = some (.slice A n cap) := cell_at hT0 rfl
 have z0 := cell_lt q0
 refine wp_region_planL [(0, true), (1, true), (2, true), (3, true), (4, true), (5, true), (6, false), (7, true)] w0.heap.size 8 (by kernel_rfl) (by kernel_rfl) (Nat.le_refl _) (fun _ _ d _ _ h => by cases d <;> exact h) ?_
 have hC : Below w0.heap.size w0 w0 := Below.refl _ _
 repeat (first | (refine wpPlanLA_skip _ rfl (by rfl) ?_; simp only [Act.put, List.setIfInBounds_toArray, List.set_cons_zero, List.set_cons_succ]) | (refine wpPlanLA_soft _ ?_ rfl (by rfl) ?_ ?_; rotate_left; (intro wq hq hcq; go_simp; first | exact rfl | exact ⟨rfl, rfl⟩); simp only [Act.put, List.setIfInBounds_toArray, List.set_cons_zero, List.set_cons_succ]))
 refine wpPlanLA_hard _ rfl (by rfl) (fun w1 hS K hK => ?_)
 replace hC := hC.call hS rfl
 clear hS
 go_simp
 refine (c22 A n cap l _ hl (H0.below hC)).mono ?_
 rintro e w2 ⟨v2, rfl, ho, hb⟩
 have hLO : w.heap.size + 1 < w1.heap.size := Nat.lt_of_lt_of_le (Array.getElem?_eq_some_iff.1 hT1).1 hC.size
 obtain ⟨B, cb, rfl⟩ := own_slice ho
 replace hC := hC.call hb rfl
 clear hb
 refine hK _ _ hC ?_
 clear hK K
 try simp only [Act.put, List.setIfInBounds_toArray, List.set_cons_zero, List.set_cons_succ]
 repeat (first | (refine wpPlanLA_skip _ rfl (by rfl) ?_; simp only [Act.put, List.setIfInBounds_toArray, List.set_cons_zero, List.set_cons_succ]) | (refine wpPlanLA_soft _ ?_ rfl (by rfl) ?_ ?_; rotate_left; (intro wq hq hcq; go_simp; first | exact rfl | exact ⟨rfl, rfl⟩); simp only [Act.put, List.setIfInBounds_toArray, List.set_cons_zero, List.set_cons_succ]))
 refine wpPlanLA_last _ rfl (by rfl) (fun w3 hS K hK => ?_)
 replace hC := hC.call hS rfl
 replace ho := own_below ho hS
 clear hS
 have hT3 := blkb hT1 hC
 refine wp_store_blk 35 _ _ rfl (w.heap.size + 1) _ rfl rfl hT3 ?s1 ?s2 ?s3 ?_
 case s1 => rfl
 case s2 => kernel_rfl
 case s3 => simp [Value.oneCell']
 intro w4 hT4 hg4 hs4
 have o4 := Own.kept ho hg4 hLO
 have hB4 := (hB0.call hC rfl).grown hg4 (hB0.call hC rfl).size (fun j hj => by cases hj; omega)
 refine hK _ _ (fun w5 hS => ?_)
 clear hK K
 replace hT4 := blkb hT4 hS
 have hB5 := hB4.call hS rfl
 obtain ⟨B', cb', e, hr, hcb, hcm, _⟩ := own_form (own_below o4 hS)
 cases e
 have HO : Hid (RdI w5 B n l ∧ n ≤ cb ∧ cb ≤ 9223372036854775807 ∧ Below w.heap.size w w5) := Lib.hid ⟨hr, hcb, hcm, hB5⟩
 clear hS hr hcb hcm hB5 hB4 hs4 o4 hg4 hT3 hC ho
 have c0 := cell_at (i := 0) hT4 rfl
 have c1 := cell_at (i := 1) hT4 rfl
 have c2 := cell_at (i := 2) hT4 rfl
 go_wp2
 obtain ⟨h1, h2, h3, h4⟩ := HO.out
 exact bodyPost_ret (results_blk rfl rfl hT4 _ Tryz.underlying35 rfl (by kernel_rfl)) rfl ⟨B, cb, rfl, h1, h2, h3, h4⟩
theorem c71 (c r : Int) (A : Option Addr) (n cap : Nat) (l : List Int) (w : World) (hl : n ≤ 1000000) (H : RdI w A n l) :
  Calls Tryz.prog 71 #[.agg #[.int .i64 c, .int .i64 r, .slice A n cap]] w fun en w' => ∃ B cb, en = .returned (.agg #[.int .i64 c, .int .i64 r, .slice B n cb]) ∧ RdI w' B n l ∧ n ≤ cb ∧ cb ≤ 9223372036854775807 ∧ Below w.heap.size w w' := by
 obtain ⟨w0, hW⟩ : ∃ W, W = (w.alloc (Obj.cells #[.int .i64 c, .int .i64 r, .slice A n cap] 35)).alloc (Obj.cells #[.int .i64 0, .int .i64 0, .slice none 0 0] 24) := ⟨_, rfl⟩
 have hT0 : w0.heap[w.heap.size]? = some (.cells #[.int .i64 c, .int .i64 r, .slice A n cap] 35 (0, 0)) := by rw [hW]; exact heap_old (by simp) (heap_new rfl)
 have hT1 : w0.heap[w.heap.size + 1]? = some (.cells #[.int .i64 0, .int .i64 0, .slice none 0 0] 24 (0, 0)) := by rw [hW]; exact heap_new (by simp)
 have hB0 : Below w.heap.size w w0 := by rw [hW]; exact below2 _ _ _
 have H0 := H.below hB0
 have hsz := hB0.size
 clear H
 go_enter Tryz.func71, Tryz.ntmps71
 go_wp2_with fail
 rw [← hW]
 clear hW
 have q0 : w0.cell? ⟨w.heap.size, 0, none⟩ = some (.int .i64 c) := cell_at hT0 rfl
 have q1 : w0.cell? ⟨w.heap.size, 1, none⟩ = some (.int .i64 r) := cell_at hT0 rfl
 have q2 : w0.cell? ⟨w.heap.size, 2, none⟩ = some (.slice A n cap) := cell_at hT0 rfl
 have z0 := cell_lt q0
 refine wp_region_planL [(0, true), (1, true), (2, true), (3, true), (4, true), (5, true), (6, false), (7, true)] w0.heap.size 8 (by kernel_rfl) (by kernel_rfl) (Nat.le_refl _) (fun _ _ d _ _ h => by cases d <;> exact h) ?_
 have hC : Below w0.heap.size w0 w0 := Below.refl _ _
 repeat (first | (refine wpPlanLA_skip _ rfl (by rfl) ?_; simp only [Act.put, List.setIfInBounds_toArray, List.set_cons_zero, List.set_cons_succ]) | (refine wpPlanLA_soft _ ?_ rfl (by rfl) ?_ ?_; rotate_left; (intro wq hq hcq; go_simp; first | exact rfl | exact ⟨rfl, rfl⟩); simp only [Act.put, List.setIfInBounds_toArray, List.set_cons_zero, List.set_cons_succ]))
 refine wpPlanLA_hard _ rfl (by rfl) (fun w1 hS K hK => ?_)
 replace hC := hC.call hS rfl
 clear hS
 go_simp
 refine (c22 A n cap l _ hl (H0.below hC)).mono ?_
 rintro e w2 ⟨v2, rfl, ho, hb⟩
 have hLO : w.heap.size + 1 < w1.heap.size := Nat.lt_of_lt_of_le (Array.getElem?_eq_some_iff.1 hT1).1 hC.size
 obtain ⟨B, cb, rfl⟩ := own_slice ho
 replace hC := hC.call hb rfl
 clear hb
 refine hK _ _ hC ?_
 clear hK K
 try simp only [Act.put, List.setIfInBounds_toArray, List.set_cons_zero, List.set_cons_succ]
 repeat (first | (refine wpPlanLA_skip _ rfl (by rfl) ?_; simp only [Act.put, List.setIfInBounds_toArray, List.set_cons_zero, List.set_cons_succ]) | (refine wpPlanLA_soft _ ?_ rfl (by rfl) ?_ ?_; rotate_left; (intro wq hq hcq; go_simp; first | exact rfl | exact ⟨rfl, rfl⟩); simp only [Act.put, List.setIfInBounds_toArray, List.set_cons_zero, List.set_cons_succ]))
 refine wpPlanLA_last _ rfl (by rfl) (fun w3 hS K hK => ?_)
 replace hC := hC.call hS rfl
 replace ho := own_below ho hS
 clear hS
 have hT3 := blkb hT1 hC
 refine wp_store_blk 24 _ _ rfl (w.heap.size + 1) _ rfl rfl hT3 ?s1 ?s2 ?s3 ?_
 case s1 => rfl
 case s2 => kernel_rfl
 case s3 => simp [Value.oneCell']
 intro w4 hT4 hg4 hs4
 have o4 := Own.kept ho hg4 hLO
 have hB4 := (hB0.call hC rfl).grown hg4 (hB0.call hC rfl).size (fun j hj => by cases hj; omega)
 refine hK _ _ (fun w5 hS => ?_)
 clear hK K
 replace hT4 := blkb hT4 hS
 have hB5 := hB4.call hS rfl
 obtain ⟨B', cb', e, hr, hcb, hcm, _⟩ := own_form (own_below o4 hS)
 cases e
 have HO : Hid (RdI w5 B n l ∧ n ≤ cb ∧ cb ≤ 9223372036854775807 ∧ Below w.heap.size w w5) := Lib.hid ⟨hr, hcb, hcm, hB5⟩
 clear hS hr hcb hcm hB5 hB4 hs4 o4 hg4 hT3 hC ho
 have c0 := cell_at (i := 0) hT4 rfl
 have c1 := cell_at (i := 1) hT4 rfl
 have c2 := cell_at (i := 2) hT4 rfl
 go_wp2
 obtain ⟨h1, h2, h3, h4⟩ := HO.out
 exact bodyPost_ret (results_blk rfl rfl hT4 _ Tryz.underlying24 rfl (by kernel_rfl)) rfl ⟨B, cb, rfl, h1, h2, h3, h4⟩
end Go.Proofs.YtdimmlljjmmdbaaGreatDoor
namespace Go.Proofs.YtdimmlljjmmdbaaGreatDoor
open Go.RowKit Go.Shelf
set_option maxHeartbeats 8000000
set_option maxRecDepth 100000
/-- an append of integers to own memory, in a list of operations -/
theorem wpList_app_ints {ops : Array Oper} {rest : List Oper} {o : Oper} {a : Act} {w : World} {Q : Exit → Act → World → Prop} (hgd : o.guard = none) (s x : Operand)
  (ho : o.op = .call { callee := .builtin .append, args := #[s, x], argTypes := #[22, 22] })
  (base : Nat) (v : Value) (n : Nat) (xs ys : List Int) (hs : a.eval s = v) (hown : Own w base v n (encI xs))
  (A : Option Addr) (m c : Nat) (hx : a.eval x = .slice A m c) (H : RdI w A m ys) (hnm : n + m ≤ 1000000) (hbase : base ≤ w.heap.size)
  (h : ∀ v' w', Own w' base v' (n + m) (encI (xs ++ ys)) → Below base w w' → wpList Tryz.prog ops Q rest (a.put o.dst v') w') : wpList Tryz.prog ops Q (o :: rest) a w := by
 refine wpList_plain hgd fun K hK => ?_
 exact wp_app_ints s x ho base v n xs ys hs hown A m c hx H hnm hbase (fun v' w' h1 h2 => hK _ _ (h v' w' h1 h2))
theorem bl2 (w : World) (o : Obj) : Below w.heap.size w (w.alloc o) := (Below.refl _ _).alloc (Nat.le_refl _) _
theorem rd_none (w : World) : RdI w none 0 [] := ⟨rfl, fun h => absurd h (Nat.lt_irrefl 0)⟩
theorem own_rdI {w : World} {B : Nat} {v : Value} {n : Nat} {l : List Int} (h : w.ownsRow B 3 1 v n (encI l)) : ∃ A cap, v = .slice A n cap ∧ RdI w A n l := by
 obtain ⟨A, cap, rfl, hr, _⟩ := own_form h
 exact ⟨A, cap, rfl, hr⟩
end Go.Proofs.YtdimmlljjmmdbaaGreatDoor
namespace Go.Proofs.YtdimmlljjmmdbaaGreatDoor
open Go.RowKit
set_option maxHeartbeats 8000000
set_option maxRecDepth 20000
theorem bs_tl (x : List UInt8) : (Tx.bs x).toList = x := by rw [ByteArray.toList_eq]; rfl
end Go.Proofs.YtdimmlljjmmdbaaGreatDoor
/- A region that draws its order, whose last operation waits for all others; what the operations on the way keep is any property of the world. -/
namespace Go
open Go.RowKit
section
variable {P : Program} {ops : Array Oper} {C : World → Prop} {Q : Exit → Act → World → Prop}
theorem wpAny_planC {a : Act} {W : World} (p : List (Nat × Bool)) (L : Nat) (C : World → Prop) (hCg : ∀ w w', C w → Below w.heap.size w w' → C w') (hC0 : C W)
  (hB : (p.length + 1 == ops.size && Region.noSelect ops && Region.planLB .any ops L p (Array.replicate ops.size false)) = true)
  (hQ : ∀ c a d v w, Q (.panic c) (a.put d v) w → Q (.panic c) a w)
  (h : wpPlanLA P ops C Q L p a W) : wpAny P .any ops Q ops.size (Array.replicate ops.size false) a { W with drawn := W.drawn + 1 } := by
 simp only [Bool.and_eq_true, beq_iff_eq] at hB
 obtain ⟨⟨hlen, hs⟩, hP⟩ := hB
 have hd : Below W.heap.size W { W with drawn := W.drawn + 1 } := (Below.refl _ W).drew
 have := wpAnyL_plan (P := P) (Q := Q) (C := C) (md := .any) (ops := ops) hCg hs hQ p (Array.replicate ops.size false) a { W with drawn := W.drawn + 1 } (hCg _ _ hC0 hd) hP (h _ hd)
 rw [hlen] at this
 exact wpAny_of_L _ _ _ _ this
theorem wp_region_planC {id : Nat} {a : Act} {W : World} (p : List (Nat × Bool)) (L : Nat) (C : World → Prop) (hCg : ∀ w w', C w → Below w.heap.size w w' → C w') (hC0 : C W) (hm : P.follows .mixedOrders = true)
  (hB : (p.length + 1 == ops.size && Region.noSelect ops && Region.planLB .any ops L p (Array.replicate ops.size false)) = true)
  (hQ : ∀ c a d v w, Q (.panic c) (a.put d v) w → Q (.panic c) a w)
  (h : wpPlanLA P ops C Q L p a W) : (Code.region id ops true).wp P Q a W := wp_region_any hm (wpAny_planC p L C hCg hC0 hB hQ h)
theorem wpPlanLA_softC {L : Nat} {l : List Oper} {i : Nat} {W0 : World} {p : List (Nat × Bool)} {a : Act} (o : Oper) (v : Value) (ho : l[i]? = some o) (hw : Region.wanted o (yielded l.toArray a.tmps) = true)
  (hv : ∀ w, C w → o.softAt P a w v)
  (h : wpPlanLA P l.toArray C Q L p (a.put o.dst v) W0) : wpPlanLA P l.toArray C Q L ((i, true) :: p) a W0 :=
 fun w hg => ⟨o, v, by rw [List.getElem?_toArray]; exact ho, .inl ⟨hw, hv⟩, fun w2 hg2 => h w2 (hg.trans (hg2.mono hg.size))⟩
end
end Go
namespace Go.Proofs.YtdimmlljjmmdbaaGreatDoor
open Go.RowKit Go.Shelf
set_option maxHeartbeats 16000000
set_option maxRecDepth 100000
/-- what Parse returns -/
def PG (w : World) (p : Tx.Gd × Int × Int) (en : Ending) (w' : World) : Prop := ∃ A cap, en = .returned (.tuple #[.agg #[.int .i64 p.1.c, .int .i64 p.1.r, .slice A p.1.l.length cap], .int .i64 p.2.1, .int .i64 p.2.2]) ∧ RdI w' A p.1.l.length p.1.l ∧ p.1.l.length ≤ cap ∧ cap ≤ 9223372036854775807 ∧ Below w.heap.size w w'
theorem PG.zero {w w' : World} {p : Tx.Gd × Int × Int} {i e : Int} (h : p = (Tx.zG, i, e)) (hb : Below w.heap.size w w') : PG w p (.returned (.tuple #[.agg #[.int .i64 0, .int .i64 0, .slice none 0 0], .int .i64 i, .int .i64 e])) w' := by
 subst h
 exact ⟨none, 0, rfl, rd_none _, Nat.le_refl _, by decide, hb⟩
theorem nums_le {word : List UInt8} {n : Nat} {b : List UInt8} {l : List Int} (h : Tx.nums word n b = some l) : n ≤ b.length := by
 have h1 := Tx.nums_length h
 have h2 := Tx.split_len_le 32 b
 unfold Tx.nums at h
 split at h
 ·cases h
 ·rename_i x ws hs
  rw [hs] at h2
  split at h
  ·rw [← Option.some.inj h] at h1
   simp at h1 h2
   omega
  ·cases h
theorem c85_10 (s : ByteArray) (w : World) (hs : s.size ≤ 1000000) :
  Calls Tryz.prog 85 #[.string s, .int .u8 10] w fun en w' => ∃ x, en = .returned x ∧ w'.ownsRow w.heap.size 9 1 x (Tx.split 10 s.data.toList).length (Tx.cells (Tx.split 10 s.data.toList)) ∧ Below w.heap.size w w' := c85 s 10 w hs
end Go.Proofs.YtdimmlljjmmdbaaGreatDoor
namespace Go.Proofs.YtdimmlljjmmdbaaGreatDoor
open Go.RowKit
set_option maxHeartbeats 4000000
set_option maxRecDepth 20000
/-- the taker's block, and the words that are left (they lie below it) -/
structure Tkr (w : World) (b : Nat) (ws : List (List UInt8)) (wr : Bool) (A : Option Addr) : Prop where
 blk : w.heap[b]? = some (.cells #[.slice A ws.length ws.length, .bool wr] 231 (0, 0))
 rd : ∀ x r, ws = x :: r → ∃ g off, A = some ⟨g, off, none⟩ ∧ g < b ∧ ∀ j, j < ws.length → w.cell? ⟨g, off + j, none⟩ = (Tx.cells ws)[j]?
theorem Tkr.below {w w' : World} {b : Nat} {ws : List (List UInt8)} {wr : Bool} {A : Option Addr} (h : Tkr w b ws wr A) (hb : Below w.heap.size w w') : Tkr w' b ws wr A := by
 have hlt := (Array.getElem?_eq_some_iff.1 h.blk).1
 refine ⟨(hb.block b hlt).trans h.blk, fun x r e => ?_⟩
 obtain ⟨g, off, hA, hg, hc⟩ := h.rd x r e
 exact ⟨g, off, hA, hg, fun j hj => (hb.cell (p := ⟨g, off + j, none⟩) (Nat.lt_trans hg hlt)).trans (hc j hj)⟩
theorem heap_set98 {w : World} {b i : Nat} {cs : Array Value} {t : TypeId} {f : Nat × Nat} (v : Value) (h : w.heap[b]? = some (.cells cs t f)) : (w.setCell ⟨b, i, none⟩ v).heap[b]? = some (.cells (cs.setIfInBounds i v) t f) := by
 simp [World.setCell, Array.getElem?_modify, h]
theorem below_set {w : World} {b i : Nat} (v : Value) : Below b w (w.setCell ⟨b, i, none⟩ v) := (Below.refl b w).setCell (p := ⟨b, i, none⟩) (Nat.le_refl _) v
/-- all blocks but one stay -/
structure Only (b : Nat) (w w' : World) : Prop where
 bel : Below b w w'
 size : w.heap.size ≤ w'.heap.size
 same : ∀ i o, w.heap[i]? = some o → i ≠ b → w'.heap[i]? = some o
theorem Only.trans {b : Nat} {a c d : World} (h : Only b a c) (k : Only b c d) : Only b a d := ⟨h.bel.trans k.bel, Nat.le_trans h.size k.size, fun i o ho hb => k.same i o (h.same i o ho hb) hb⟩
theorem Only.of_below {b : Nat} {w w' : World} (h : Below w.heap.size w w') (hb : b < w.heap.size) : Only b w w' := ⟨h.mono (Nat.le_of_lt hb), h.size, fun i o ho _ => (h.block i (Array.getElem?_eq_some_iff.1 ho).1).trans ho⟩
theorem Only.set (b i : Nat) (w : World) (v : Value) : Only b w (w.setCell ⟨b, i, none⟩ v) := ⟨below_set v, by simp, fun j o ho hj => (Below.heap_setCell w ⟨b, i, none⟩ v j (by simpa using hj)).trans ho⟩
/-- what a taking leaves -/
def TkPost (w : World) (b : Nat) (ws : List (List UInt8)) (wr : Bool) (v : Value) (e : Ending) (w' : World) : Prop := ∃ A, e = .returned v ∧ Tkr w' b ws wr A ∧ Only b w w'
theorem c182b (b : List UInt8) (w : World) (hb : b.length ≤ 1000000) : Calls Tryz.prog 182 #[.string (Tx.bs b)] w fun en w' => en = .returned (.tuple #[.int .i64 (Tx.iv b), .bool (Tx.num b)]) ∧ Below w.heap.size w w' := by
 have h := c182 (Tx.bs b) w (by rw [Tx.bs_size]; exact hb)
 rw [Tx.bs_toList] at h
 exact h
theorem c168 (b : Nat) (x : List UInt8) (r : List (List UInt8)) (wg : Bool) (A : Option Addr) (w : World) (hl : r.length ≤ 1000000) (hx : x.length ≤ 1000000) (h : Tkr w b (x :: r) wg A) :
  Calls Tryz.prog 168 #[.pointer (some ⟨b, 0, none⟩)] w (TkPost w b r (wg || !Tx.num x) (.int .i64 (Tx.iv x))) := by
 have hblk := h.blk
 obtain ⟨g, off, rfl, hg, hc⟩ := h.rd x r rfl
 have c0 : w.cell? ⟨g, off, none⟩ = some (.string (Tx.bs x)) := hc 0 (by simp)
 obtain ⟨M, hM⟩ : ∃ M, M = r.length := ⟨_, rfl⟩
 have hlen : (x :: r).length = M + 1 := by simp [hM]
 rw [hlen] at hblk
 have hsl : ∃ A', (∀ W : World, (Instr.slice 140 (.slice (some ⟨g, off, none⟩) (M + 1) (M + 1)) (some (.int .i64 1)) none none).run Tryz.prog W = .ok (.slice (some A') M M) W) ∧ (0 < M → A' = ⟨g, off + 1, none⟩) := by
  refine ⟨if M = 0 then ⟨g, off, none⟩ else ⟨g, off + 1, none⟩, fun W => ?_, fun h => by rw [if_neg (by omega)]⟩
  rw [run_slice_l (P := Tryz.prog) W 140 (some ⟨g, off, none⟩) (M + 1) (M + 1) (by kernel_rfl) .i64 1 (by omega) (by omega)]
  have hse : (sizeOf (Tryz.prog.elem 140)).run Tryz.prog W = .ok 1 W := by
   have : Tryz.prog.elem 140 = 9 := by kernel_rfl
   rw [this]
   go_simp
  rw [hse]
  simp only [Result.andThen_ok, sliced, Nat.add_sub_cancel, Int.toNat_one]
  by_cases h0 : M = 0
  ·subst h0; simp
  ·rw [if_neg (by omega), if_neg h0]
   simp [Addr.add]
 obtain ⟨A', hsl, hA'⟩ := hsl
 have HT : Hid (∀ w' wg', w'.heap[b]? = some (.cells #[.slice (some A') M M, .bool wg'] 231 (0, 0)) → Only b w w' → TkPost w b r wg' (.int .i64 (Tx.iv x)) (.returned (.int .i64 (Tx.iv x))) w') := Lib.hid (fun w' wg' h1 h2 => by
  refine ⟨some A', rfl, ⟨by rw [← hM]; exact h1, fun y t e => ?_⟩, h2⟩
  have hM0 : 0 < M := by rw [hM, e]; simp
  refine ⟨g, off + 1, by rw [hA' hM0], hg, fun j hj => ?_⟩
  have := hc (j + 1) (by simp; omega)
  rw [show off + 1 + j = off + (j + 1) by omega]
  exact (h2.bel.cell (p := ⟨g, off + (j + 1), none⟩) hg).trans (this.trans (by simp [Tx.cells])))
 have K182 := Lib.hid (c182b x w hx)
 obtain ⟨I, hI⟩ : ∃ z : Int, z = (Tx.iv x : Int) := ⟨_, rfl⟩
 obtain ⟨F, hF⟩ : ∃ f : Bool, f = Tx.num x := ⟨_, rfl⟩
 obtain ⟨X, hX⟩ : ∃ L, L = Tx.bs x := ⟨_, rfl⟩
 rw [← hI, ← hF, ← hX] at K182
 rw [← hI] at HT ⊢
 rw [← hF]
 rw [← hX] at c0
 have hM1 : (0 : Int) < (M : Int) + 1 := by omega
 have k0 := cell_at (i := 0) hblk rfl
 have k1 := cell_at (i := 1) hblk rfl
 have HBLK := Lib.hid hblk
 clear hblk h hX hx hc hM hlen hA' hI hF hl
 go_enter Tryz.func168, Tryz.ntmps168
 go_wp2_with fail
 refine K182.out.mono ?_
 rintro e w2 ⟨rfl, hb⟩
 have hgl := cell_lt c0
 have hb0 : b < w.heap.size := cell_lt k0
 have ho := Only.of_below hb hb0
 have hblk2 := blkb HBLK.out hb
 replace k0 := cell_at (i := 0) hblk2 rfl
 replace k1 := cell_at (i := 1) hblk2 rfl
 have f0 : ∀ o, w2.frozen? ⟨b, o, none⟩ = false := fun o => free_at hblk2
 have z0 := cell_lt k0
 have hs1 := heap_set98 (i := 0) (.slice (some A') M M) hblk2
 have k1' : (w2.setCell ⟨b, 0, none⟩ (.slice (some A') M M)).cell? ⟨b, 1, none⟩ = some (.bool wg) := cell_at hs1 rfl
 have f1' : (w2.setCell ⟨b, 0, none⟩ (.slice (some A') M M)).frozen? ⟨b, 1, none⟩ = false := free_at hs1
 have HS1 := Lib.hid hs1
 have HO := Lib.hid (ho.trans (Only.set b 0 w2 (.slice (some A') M M)))
 clear hb hblk2 ho hs1 hg hb0 hgl c0
 cases wg <;> cases F
 all_goals
  go_wp2_with fail
  go_ret
  exact HT.out _ _ (heap_set98 _ HS1.out) (HO.out.trans (Only.set _ _ _ _))
end Go.Proofs.YtdimmlljjmmdbaaGreatDoor
/-
 DERIVED: THE SHELF's CONTRACTS AT THIS DUMP, IN PLAIN WORDS (tools/lay-plain.mjs out of 'TryzShelf.lean', which tools/lay-shelf.mjs wrote): THE SAME DECLARATIONS UNDER THE SAME NAMES: 'import', 'namespace', 'open', 'def', 'theorem' AND NOTHING ELSE: no command of the shelf's: FOR A HAND-IN. Each laying: the table of numbers ('.._ren') and one theorem, a field a fact of the dump's own or the kernel's comparison; each contract: ONE APPLICATION.
-/
namespace Go.Proofs
open Go.Shelf
def Tryz.lays137_ren : Go.Shelf.Ren := ⟨fun | 137 => 165 | 217 => 179 | 266 => 191 | n => n, fun | 9 => 9 | 5 => 5 | 3 => 3 | n => n, fun | n => n⟩
theorem Tryz.lays137 : Go.Proofs.Lays.n137 Tryz.prog Tryz.lays137_ren := {
 mixed := by kernel_rfl
 f137 := Tryz.func165.trans (congrArg some (by kernel_rfl))
 f217 := Tryz.func179.trans (congrArg some (by kernel_rfl))
 f266 := Tryz.func191.trans (congrArg some (by kernel_rfl))
 t3 := Tryz.underlying3
 a3 := Tryz.isAgg3
 z3 := Tryz.sizeOf3
 v3 := Tryz.zeroValue3
 t5 := Tryz.underlying5
 a5 := Tryz.isAgg5
 z5 := Tryz.sizeOf5
 v5 := Tryz.zeroValue5
 t9 := Tryz.underlying9
 a9 := Tryz.isAgg9
 z9 := Tryz.sizeOf9
 v9 := Tryz.zeroValue9 }
open Go.RowKit in
/-- strings.IndexByte: "IndexByte returns the index of the first instance of c in s, or -1 if c is not present in s.": IT RETURNS 'Lib.indexByte s c'; the world is as it was. (LAID: no walk: one application.) -/
theorem Tryz.strings_IndexByte (s : ByteArray) (c : Int) (w : World) :
  Calls Tryz.prog 165 #[.string s, .int .u8 c] w fun e w' => e = .returned (.int .i64 (Lib.indexByte s.data.toList c.toNat.toUInt8)) ∧ w' = w := Any.strings_IndexByte Tryz.lays137 s c w
def Tryz.lays104_ren : Go.Shelf.Ren := ⟨fun | 104 => 137 | 211 => 166 | 207 => 180 | n => n, fun | 9 => 9 | 4 => 4 | 24 => 197 | 3 => 3 | n => n, fun | n => n⟩
theorem Tryz.lays104 : Go.Proofs.Lays.n104 Tryz.prog Tryz.lays104_ren := {
 mixed := by kernel_rfl
 f104 := Tryz.func137.trans (congrArg some (by kernel_rfl))
 f207 := Tryz.func180.trans (congrArg some (by kernel_rfl))
 f211 := Tryz.func166.trans (congrArg some (by kernel_rfl))
 t3 := Tryz.underlying3
 a3 := Tryz.isAgg3
 z3 := Tryz.sizeOf3
 v3 := Tryz.zeroValue3
 t4 := Tryz.underlying4
 a4 := Tryz.isAgg4
 z4 := Tryz.sizeOf4
 v4 := Tryz.zeroValue4
 t9 := Tryz.underlying9
 a9 := Tryz.isAgg9
 z9 := Tryz.sizeOf9
 v9 := Tryz.zeroValue9
 t24 := Tryz.underlying197
 a24 := Tryz.isAgg197
 z24 := Tryz.sizeOf197
 v24 := Tryz.zeroValue197 }
open Go.RowKit in
/-- strings.CutSuffix: "CutSuffix returns s without the provided ending suffix string and reports whether it found the suffix. If s doesn't end with suffix, CutSuffix returns s, false. If suffix is the empty string, CutSuffix returns s, true.": IT RETURNS '(Lib.trimSuffix s p, Lib.hasSuffix s p)'; the world is as it was. (LAID: no walk: one application.) -/
theorem Tryz.strings_CutSuffix (s p : ByteArray) (w : World) (hs : s.size ≤ 9223372036854775807) :
  Calls Tryz.prog 137 #[.string s, .string p] w fun e w' => e = .returned (.tuple #[.string ⟨(Lib.trimSuffix s.data.toList p.data.toList).toArray⟩, .bool (Lib.hasSuffix s.data.toList p.data.toList)]) ∧ w' = w := Any.strings_CutSuffix Tryz.lays104 s p w hs
def Tryz.lays146_ren : Go.Shelf.Ren := ⟨fun | 146 => 167 | 221 => 181 | 268 => 192 | 138 => 193 | 143 => 194 | 195 => 202 | 197 => 203 | 218 => 204 | 219 => 205 | 260 => 211 | 217 => 179 | 225 => 212 | 224 => 213 | 267 => 214 | 266 => 191 | 314 => 217 | n => n, fun | 9 => 9 | 31 => 140 | 3 => 3 | 4 => 4 | 0 => 0 | 105 => 273 | 21 => 21 | 5 => 5 | 46 => 235 | 119 => 280 | 139 => 283 | 138 => 282 | 146 => 254 | 51 => 253 | n => n, fun | 1 => 1 | 3 => 3 | 4 => 4 | n => n⟩
theorem Tryz.lays146 : Go.Proofs.Lays.n146 Tryz.prog Tryz.lays146_ren := {
 mixed := by kernel_rfl
 f138 := Tryz.func193.trans (congrArg some (by kernel_rfl))
 f143 := Tryz.func194.trans (congrArg some (by kernel_rfl))
 f146 := Tryz.func167.trans (congrArg some (by kernel_rfl))
 f195 := Tryz.func202.trans (congrArg some (by kernel_rfl))
 f197 := Tryz.func203.trans (congrArg some (by kernel_rfl))
 f217 := Tryz.func179.trans (congrArg some (by kernel_rfl))
 f218 := Tryz.func204.trans (congrArg some (by kernel_rfl))
 f219 := Tryz.func205.trans (congrArg some (by kernel_rfl))
 f221 := Tryz.func181.trans (congrArg some (by kernel_rfl))
 f224 := Tryz.func213.trans (congrArg some (by kernel_rfl))
 f225 := Tryz.func212.trans (congrArg some (by kernel_rfl))
 f260 := Tryz.func211.trans (congrArg some (by kernel_rfl))
 f266 := Tryz.func191.trans (congrArg some (by kernel_rfl))
 f267 := Tryz.func214.trans (congrArg some (by kernel_rfl))
 f268 := Tryz.func192.trans (congrArg some (by kernel_rfl))
 f314 := Tryz.func217.trans (congrArg some (by kernel_rfl))
 t0 := Tryz.underlying0
 a0 := Tryz.isAgg0
 z0 := Tryz.sizeOf0
 v0 := Tryz.zeroValue0
 t3 := Tryz.underlying3
 a3 := Tryz.isAgg3
 z3 := Tryz.sizeOf3
 v3 := Tryz.zeroValue3
 t4 := Tryz.underlying4
 a4 := Tryz.isAgg4
 z4 := Tryz.sizeOf4
 v4 := Tryz.zeroValue4
 t5 := Tryz.underlying5
 a5 := Tryz.isAgg5
 z5 := Tryz.sizeOf5
 v5 := Tryz.zeroValue5
 t9 := Tryz.underlying9
 a9 := Tryz.isAgg9
 z9 := Tryz.sizeOf9
 v9 := Tryz.zeroValue9
 t21 := Tryz.underlying21
 a21 := Tryz.isAgg21
 z21 := Tryz.sizeOf21
 v21 := Tryz.zeroValue21
 t31 := Tryz.underlying140
 a31 := Tryz.isAgg140
 z31 := Tryz.sizeOf140
 v31 := Tryz.zeroValue140
 t46 := Tryz.underlying235
 a46 := Tryz.isAgg235
 z46 := Tryz.sizeOf235
 v46 := Tryz.zeroValue235
 t51 := Tryz.underlying253
 a51 := Tryz.isAgg253
 z51 := Tryz.sizeOf253
 v51 := Tryz.zeroValue253
 t105 := Tryz.underlying273
 a105 := Tryz.isAgg273
 z105 := Tryz.sizeOf273
 v105 := Tryz.zeroValue273
 t119 := Tryz.underlying280
 a119 := Tryz.isAgg280
 z119 := Tryz.sizeOf280
 t138 := Tryz.underlying282
 a138 := Tryz.isAgg282
 z138 := Tryz.sizeOf282
 v138 := Tryz.zeroValue282
 t139 := Tryz.underlying283
 a139 := Tryz.isAgg283
 z139 := Tryz.sizeOf283
 v139 := Tryz.zeroValue283
 t146 := Tryz.underlying254
 a146 := Tryz.isAgg254
 z146 := Tryz.sizeOf254
 v146 := Tryz.zeroValue254
 g1 := by kernel_rfl
 g3 := by kernel_rfl
 g4 := by kernel_rfl }
open Go.RowKit Go.Lib in
/-- strings.Split. (LAID: no walk: one application.) -/
theorem Tryz.strings_Split (s sep : ByteArray) (m : Int) (w : World) (hs : s.size < 4294967281) (hm : w.cell? ⟨1, 0, none⟩ = some (.int .i64 m)) (h1 : 1 ≤ sep.size) :
  Calls Tryz.prog 167 #[.string s, .string sep] w fun e w' =>
   e = .returned (.slice (some ⟨w.heap.size, 0, none⟩) (Lib.countB s sep + 1) (Lib.countB s sep + 1)) ∧ w' = w.alloc (.cells ((Lib.splitB sep 0 (Lib.countB s sep) s).map Value.string).toArray 9) := Any.strings_Split Tryz.lays146 (by kernel_rfl) s sep m w hs hm h1
end Go.Proofs
namespace Go.Proofs.YtdimmlljjmmdbaaGreatDoor
open Go.RowKit Go.Shelf
set_option maxHeartbeats 4000000
set_option maxRecDepth 100000
attribute [local go_sem] Oper.semAt_some
namespace Tx
/-- the first line of a text, with its end; what is left behind it -/
def lineOf (s : List UInt8) : List UInt8 := if Lib.indexByte s 10 = -1 then s else s.take ((Lib.indexByte s 10).toNat + 1)
def restOf (s : List UInt8) : List UInt8 := if Lib.indexByte s 10 = -1 then [] else s.drop ((Lib.indexByte s 10).toNat + 1)
theorem line_miss {s : List UInt8} (h : Lib.indexByte s 10 = -1) : lineOf s = s ∧ restOf s = [] := by unfold lineOf restOf; rw [if_pos h, if_pos h]; exact ⟨rfl, rfl⟩
theorem line_hit {s : List UInt8} {i : Nat} (h : Lib.indexByte s 10 = i) : lineOf s = s.take (i + 1) ∧ restOf s = s.drop (i + 1) := by
 unfold lineOf restOf
 rw [if_neg (by omega), if_neg (by omega), h]; exact ⟨rfl, rfl⟩
theorem bs_pre (l : List UInt8) (i : Nat) : (bs l).extract 0 i = bs (l.take i) := by
 rw [Go.Lib.extract_eq, bs_toList]; simp [bs]
theorem bs_suf (l : List UInt8) (i n : Nat) (hn : n = l.length) : (bs l).extract i n = bs (l.drop i) := by
 subst hn
 rw [Go.Lib.extract_eq, bs_toList, List.take_of_length_le (by simp)]; rfl
end Tx
def cellLen (p : Nat) (w : World) : Nat := match w.cell? ⟨p, 0, none⟩ with | some (.string b) => b.size | _ => 0
theorem cellLen_eq {p : Nat} {w : World} {l : List UInt8} (h : w.cell? ⟨p, 0, none⟩ = some (.string (Tx.bs l))) : cellLen p w = l.length := by unfold cellLen; rw [h]; exact Tx.bs_size l
/-- the iterator of strings.Lines; its text lies in a cell that it turns itself -/
theorem lines_in (n : Nat) (hn : 1 ≤ n) (lr p : Nat) (J J1 : List UInt8 → World → Prop) (Jx : World → Prop)
  (hc : ∀ s W, J s W → W.cell? ⟨p, 0, none⟩ = some (.string (Tx.bs s)) ∧ W.frozen? ⟨p, 0, none⟩ = false)
  (hst : ∀ s W W1, s ≠ [] → J s W → Below W.heap.size W W1 → J1 s (W1.setCell ⟨p, 0, none⟩ (.string (Tx.bs (Tx.restOf s)))))
  (hY : ∀ s W, s ≠ [] → J1 s W → YieldAt Fence.wide (n - 1) Tryz.prog lr #[.string (Tx.bs (Tx.lineOf s))] W fun e W' => (e = .returned (.bool true) ∧ J (Tx.restOf s) W') ∨ (e = .returned (.bool false) ∧ Jx W'))
  (s0 : List UInt8) (hs : s0.length ≤ 1000000) (W : World) (h0 : J s0 W) :
  CallsIn Fence.wide n Tryz.prog 164 #[.func (.yield lr) #[] #[], .pointer (some ⟨p, 0, none⟩)] W fun e W' => (∃ v, e = .returned v) ∧ (J [] W' ∨ Jx W') := by
 have HY := Lib.hid hY
 have HST := Lib.hid hst
 clear hY hst
 refine callsIn_of_wp Tryz.func164 rfl trivial ?_ rfl
 simp only [Tryz.ntmps164, List.size_toArray, List.length_cons, List.length_nil, Nat.reduceAdd, Nat.reduceSub, Array.replicate_succ, Array.replicate_zero, List.push_toArray, List.append_toArray, List.nil_append, List.cons_append]
 gi_wp2
 gi_loopw [] (fun wr => ∃ s : List UInt8, s.length ≤ 1000000 ∧ J s wr) (fun wr => cellLen p wr)
 case atStart => exact ⟨s0, hs, h0⟩
 case round =>
  obtain ⟨s, hsl, hJ⟩ := hrel
  obtain ⟨k0, f0⟩ := hc s wr hJ
  have hsz := Tx.bs_size s
  have HCL := Lib.hid (cellLen_eq k0)
  by_cases hs0 : s = []
  ·subst hs0
   have hz : (Tx.bs []).size = 0 := rfl
   gi_wp2
   go_end0
   exact ⟨⟨_, rfl⟩, .inl hJ⟩
  ·have hpos : 0 < s.length := List.length_pos_iff.2 hs0
   obtain ⟨S, hS⟩ : ∃ S, S = Tx.bs s := ⟨_, rfl⟩
   rw [← hS] at k0 hsz
   have hp2 : (0 : Int) < (S.size : Int) := by omega
   rcases Tx.indexByte_cases s 10 with hi | ⟨i, hi⟩
   ·have H169 : Hid (∀ W, Calls Tryz.prog 165 #[.string S, .int .u8 10] W fun e w' => e = .returned (.int .i64 (-1)) ∧ W = w') := Lib.hid (fun W => by
     have := (Tryz.strings_IndexByte S 10 W).mono (fun e w' h => (⟨h.1, h.2.symm⟩ : _ ∧ W = w'))
     rw [hS] at this ⊢
     rw [show (Lib.indexByte (Tx.bs s).data.toList (10 : Int).toNat.toUInt8) = -1 from hi] at this
     exact this)
    obtain ⟨hl, hr⟩ := Tx.line_miss hi
    have hJ1 := HST.out s wr wr hs0 hJ (Below.refl _ _)
    rw [hr] at hJ1
    obtain ⟨fn, tmps, assign, body, hy, hR⟩ := HY.out s _ hs0 hJ1
    rw [hl, ← hS] at hy
    rw [hr] at hR
    have HJr : Hid (∀ W', J [] W' → cellLen p W' < cellLen p wr) := Lib.hid (fun W' hW' => by
     rw [cellLen_eq (hc _ _ hW').1, HCL.out]; simpa using hpos)
    have he : Tx.bs [] = { data := #[] } := rfl
    rw [he] at hy hR
    clear hJ1 hi hl hr hS hc hJ hs0 he
    gi_wp2_with (refine ⟨trivial, ?_⟩; gi_at_call 165; refine (callsIn_wide.2 (H169.out _)).mono ?_; rintro e w' ⟨rfl, rfl⟩)
    refine hR.mono ?_
    rintro e W3 (⟨rfl, hJ3⟩ | ⟨rfl, hJx3⟩)
    ·have HJ3 := Lib.hid hJ3
     clear hJ3 hy hR
     gi_wp2
     go_roundw
     case rel => exact ⟨[], by simp, HJ3.out⟩
     case measure => exact HJr.out _ HJ3.out
    ·gi_wp2
     refine bodyPost_ret (results_none rfl _ _ _) rfl ?_
     exact ⟨⟨_, rfl⟩, .inr hJx3⟩
   ·obtain ⟨hil, _, _⟩ := Tx.indexByte_some hi
    have H169 : Hid (∀ W, Calls Tryz.prog 165 #[.string S, .int .u8 10] W fun e w' => e = .returned (.int .i64 i) ∧ W = w') := Lib.hid (fun W => by
     have := (Tryz.strings_IndexByte S 10 W).mono (fun e w' h => (⟨h.1, h.2.symm⟩ : _ ∧ W = w'))
     rw [hS] at this ⊢
     rw [show (Lib.indexByte (Tx.bs s).data.toList (10 : Int).toNat.toUInt8) = i from hi] at this
     exact this)
    obtain ⟨hl, hr⟩ := Tx.line_hit hi
    have hi1 : (i : Int) + 1 ≤ (S.size : Int) := by omega
    have hi0 : (0 : Int) ≤ (i : Int) := by omega
    have hiw : IntKind.i64.wrap ((i : Int) + 1) = (i : Int) + 1 := by rw [IntKind.wrap_i64]; omega
    have hit : ((i : Int) + 1).toNat = i + 1 := by omega
    have hx1 : S.extract 0 (i + 1) = Tx.bs (Tx.lineOf s) := by rw [hS, hl]; exact Tx.bs_pre _ _
    have hx2 : S.extract (i + 1) S.size = Tx.bs (Tx.restOf s) := by rw [hsz, hS, hr]; exact Tx.bs_suf _ _ _ rfl
    obtain ⟨LN, hLN⟩ : ∃ L, L = Tx.bs (Tx.lineOf s) := ⟨_, rfl⟩
    obtain ⟨RS, hRS⟩ : ∃ L, L = Tx.bs (Tx.restOf s) := ⟨_, rfl⟩
    have HRL : Hid ((Tx.restOf s).length < s.length ∧ (Tx.restOf s).length ≤ 1000000) := Lib.hid (by rw [hr, List.length_drop]; omega)
    have HST2 : Hid (∀ W1, Below wr.heap.size wr W1 → YieldAt Fence.wide (n - 1) Tryz.prog lr #[.string LN] (W1.setCell ⟨p, 0, none⟩ (.string RS)) fun e W' => (e = .returned (.bool true) ∧ J (Tx.restOf s) W') ∨ (e = .returned (.bool false) ∧ Jx W')) := Lib.hid (fun W1 hb => by
     rw [hLN, hRS]
     exact HY.out s _ hs0 (HST.out s wr W1 hs0 hJ hb))
    have HJr : Hid (∀ W', J (Tx.restOf s) W' → cellLen p W' < cellLen p wr) := Lib.hid (fun W' hW' => by
     rw [cellLen_eq (hc _ _ hW').1, HCL.out]; exact HRL.out.1)
    have hpl : p < wr.heap.size := cell_lt k0
    rw [← hLN] at hx1
    rw [← hRS] at hx2
    have HX1 := Lib.hid hx1
    have HX2 := Lib.hid hx2
    clear hi hil hl hr hx1 hx2 hLN hRS hS hc hJ hs0 hsz
    gi_wp2_with (refine ⟨trivial, ?_⟩; gi_at_call 165; refine (callsIn_wide.2 (H169.out _)).mono ?_; rintro e w' ⟨rfl, rfl⟩)
    refine wpIn_wide.2 ?_
    refine wp_region_splitG 9 (by kernel_rfl) (by kernel_rfl) ?_
    simp only [List.take_succ_cons, List.take_zero, List.drop_succ_cons, List.drop_zero]
    repeat (go_big_quiet_step ((first | ((rw [if_neg (by omega)]; exact ⟨rfl, rfl⟩)))))
    refine wpQuiet_nil (gw_out ?_)
    intro w1 hb1
    rw [HX1.out, HX2.out]
    have k1 := (hb1.cell (p := ⟨p, 0, none⟩) hpl).trans k0
    have f1 := (hb1.frozen (p := ⟨p, 0, none⟩) hpl).trans f0
    obtain ⟨fn, tmps, assign, body, hy, hR⟩ := HST2.out w1 hb1
    clear HX1 HX2 hb1
    go_wp2
    gi_wp2
    refine hR.mono ?_
    rintro e W3 (⟨rfl, hJ3⟩ | ⟨rfl, hJx3⟩)
    ·have HJ3 := Lib.hid hJ3
     clear hJ3 hy hR
     gi_wp2
     go_roundw
     case rel => exact ⟨Tx.restOf s, HRL.out.2, HJ3.out⟩
     case measure => exact HJr.out _ HJ3.out
    ·gi_wp2
     refine bodyPost_ret (results_none rfl _ _ _) rfl ?_
     exact ⟨⟨_, rfl⟩, .inr hJx3⟩
end Go.Proofs.YtdimmlljjmmdbaaGreatDoor
namespace Go.Proofs.YtdimmlljjmmdbaaGreatDoor
open Go.RowKit Go.Shelf
set_option maxHeartbeats 4000000
set_option maxRecDepth 100000
/-- how a round over the lines may be left -/
def LinePost (B : Nat) (I Ix : World → Prop) (W : World) : Exit → Act → World → Prop
 | .normal, _, W' => KeepsFrom B W W' ∧ I W'
 | .ret, _, W' => KeepsFrom B W W' ∧ Ix W'
 | .exit _, _, _ => False
 | .goto _, _, _ => False
 | .panic _, _, _ => False
 | .outgrown, _, _ => False
/-- 'for text := range strings.Lines(s)': an invariant of what is left of s, and one walk of the body -/
theorem wpIn_lines {ps : Array Tmp} {assign body : Code} {Q : Exit → Act → World → Prop} {a : Act} {w : World} {n : Nat} (hn : 2 ≤ n) {g : Operand} {p : Nat}
  (hg : a.eval g = .func (.func 164) #[] #[.pointer (some ⟨p, 0, none⟩)]) (hps : ps.size = 1) (hpw : p < w.heap.size)
  (I I1 : List UInt8 → World → Prop) (Ix : World → Prop)
  (hI : ∀ s, OwnFrom w.heap.size (fun (_ : Unit) => I s)) (hI1 : ∀ s, OwnFrom w.heap.size (fun (_ : Unit) => I1 s)) (hIx : OwnFrom w.heap.size (fun (_ : Unit) => Ix))
  (hcell : ∀ s W, I s W → W.cell? ⟨p, 0, none⟩ = some (.string (Tx.bs s)) ∧ W.frozen? ⟨p, 0, none⟩ = false)
  (hset : ∀ s W, s ≠ [] → I s W → I1 s (W.setCell ⟨p, 0, none⟩ (.string (Tx.bs (Tx.restOf s)))))
  (s0 : List UInt8) (hs : s0.length ≤ 1000000) (h0 : I s0 w) (a₁ : List UInt8 → Act)
  (hassign : ∀ (l : Nat) (x : List UInt8) (W : World) (K : Act → World → Prop), K (a₁ x) W →
   assign.wpIn (Fence.wide.inRound l) (n - 1 - 1) Tryz.prog (Exit.then K (fun _ _ _ => False)) { tmps := (ps.zip #[.string (Tx.bs x)]).foldl (fun t (p, v) => t.setIfInBounds p v) a.tmps, defers := [] } W)
  (hbody : ∀ (l : Nat) (s : List UInt8) (W : World), s ≠ [] → I1 s W → body.wpIn (Fence.wide.inRound l) (n - 1 - 1) Tryz.prog (LinePost w.heap.size (I (Tx.restOf s)) Ix W) (a₁ (Tx.lineOf s)) W)
  (hdone : ∀ (D : Nat) (W : World), w.heap.size ≤ D → I [] W → W.heap[D]? = some (.deferred (some [])) → Q .normal { a with defers := { target := .collected D, args := #[] } :: a.defers } W)
  (hstop : ∀ (D : Nat) (W : World), w.heap.size ≤ D → Ix W → W.heap[D]? = some (.deferred (some [])) → Code.ret.wpIn Fence.wide n Tryz.prog Q { a with defers := { target := .collected D, args := #[] } :: a.defers } W) :
  (Code.rangeFunc g ps assign body).wpIn Fence.wide n Tryz.prog Q a w := by
 refine wpIn_rangeFunc fun fn hfn => ?_
 obtain ⟨rc, hrc⟩ : ∃ rc : LoopState → Option Code → Loop, rc = fun st pe => { state := st, pending := pe, fn, tmps := a.tmps, params := ps, assign, body, defers := w.heap.size } := ⟨_, rfl⟩
 obtain ⟨W1, hW1⟩ : ∃ W1, W1 = (w.alloc (.deferred (some []))).alloc (.loop (rc .ready none)) := ⟨_, rfl⟩
 have hb1 : Below w.heap.size w W1 := by rw [hW1]; exact below2 _ _ _
 have hrec : LineRec w W1 (rc .ready none) := by
  rw [hW1]
  exact ⟨heap_new (by simp), heap_old (by simp) (heap_new rfl)⟩
 have hgo := lines_in (n - 1) (by omega) (w.heap.size + 1) p (fun s W => I s W ∧ LineRec w W (rc .ready none)) (fun s W => I1 s W ∧ LineRec w W (rc .ready none)) (fun W => Ix W ∧ LineRec w W (rc .done (some .ret)))
  (fun s W h => hcell s W h.1)
  (fun s W W2 hne h hb => ⟨hset s W2 hne (own_grow (hI s) h.1 hb), (h.2.grow hb).set _ _ hpw⟩)
  ?hY s0 hs W1 ⟨own_grow (hI s0) h0 hb1, hrec⟩
 case hY =>
  rintro s W hne ⟨hi, hr⟩
  have hy := run_yield (P := Tryz.prog) (args := #[.string (Tx.bs (Tx.lineOf s))]) hr.lp (by rw [hrc]; simpa using hps.symm)
  rw [hrc] at hy
  refine ⟨fn, _, assign, body, hy, roundIn_of_wpIn hfn (hassign _ (Tx.lineOf s) W _ ⟨_, run_beginRound hr.lp (by rw [hrc]), ?_⟩)⟩
  have hr2 := hr.put { rc .ready none with state := .busy }
  refine wpIn_mono (hbody (w.heap.size + 1) s _ hne (own_put (hI1 s) hi hr)) ?_
  rintro e a3 W3 hp
  have fin : ∀ (jump : Option Code), KeepsFrom w.heap.size (W.putObj (w.heap.size + 1) (.loop { rc .ready none with state := .busy })) W3 →
    (Instr.endRound (w.heap.size + 1) jump).run Tryz.prog W3 = .ok (.bool jump.isNone) (W3.putObj (w.heap.size + 1) (.loop (rc (if jump.isNone then .ready else .done) jump))) := fun jump hk => by
   have hl3 := (hr2.kept hk).lp
   rw [hrc] at hl3
   have := run_endRound (P := Tryz.prog) jump hl3
   rw [hrc]
   exact this
  cases e with
  | normal =>
   obtain ⟨hk, hi3⟩ := hp
   exact ⟨_, _, fin none hk, .inl ⟨rfl, own_put (hI _) hi3 (hr2.kept hk), (hr2.kept hk).put _⟩⟩
  | ret =>
   obtain ⟨hk, hi3⟩ := hp
   exact ⟨_, _, fin (some .ret) hk, .inr ⟨rfl, own_put hIx hi3 (hr2.kept hk), (hr2.kept hk).put _⟩⟩
  | exit id => exact hp.elim
  | goto t => exact hp.elim
  | panic ch => exact hp.elim
  | outgrown => exact hp.elim
 have hen : (Instr.enterLoop fn a.tmps ps assign body Fence.wide.round).run Tryz.prog w = .ok (w.heap.size + 1, [{ target := .collected w.heap.size, args := #[] }]) W1 := by
  rw [hW1, hrc]; exact run_enterLoop_outer _ _ _ _ _
 refine ⟨w.heap.size + 1, [{ target := .collected w.heap.size, args := #[] }], W1, { target := .fn (.func 164) #[.pointer (some ⟨p, 0, none⟩)], args := #[.func (.yield (w.heap.size + 1)) #[] #[]] }, W1, 164,
  #[.func (.yield (w.heap.size + 1)) #[] #[]] ++ #[.pointer (some ⟨p, 0, none⟩)], W1, hen, ?_, fun _ _ => trivial, ?_, fun _ => by omega, ?_⟩
 ·simp only [resolve, hg]
  simp [go_sem]
 ·simp [invoke, go_sem, enters_of Tryz.func164 (by kernel_rfl) rfl]
 refine hgo.mono ?_
 rintro e W2 ⟨⟨v, rfl⟩, (⟨hi, hr⟩ | ⟨hx, hr⟩)⟩
 ·exact ⟨none, _, by have := run_endLoop (P := Tryz.prog) hr.lp (by rw [hrc]; simp); rw [hrc] at this; exact this, hdone _ _ (Nat.le_refl _) (own_put (hI _) hi hr) (hr.put _).defd⟩
 ·exact ⟨some .ret, _, by have := run_endLoop (P := Tryz.prog) hr.lp (by rw [hrc]; simp); rw [hrc] at this; exact this, hstop _ _ (Nat.le_refl _) (own_put hIx hx hr) (hr.put _).defd⟩
end Go.Proofs.YtdimmlljjmmdbaaGreatDoor
namespace Go.Proofs.YtdimmlljjmmdbaaGreatDoor
open Go.RowKit Go.Shelf
set_option maxHeartbeats 8000000
set_option maxRecDepth 100000
attribute [local go_sem] Oper.semAt_some
theorem c136 (s : ByteArray) (w : World) : Calls Tryz.prog 136 #[.string s] w fun en w' => en = .returned (.func (.func 164) #[] #[.pointer (some ⟨w.heap.size, 0, none⟩)]) ∧ w' = w.alloc (.cells #[.string s] 9) := by
 go_enter Tryz.func136, Tryz.ntmps136
 go_wp2
 go_ret
 exact ⟨rfl, rfl⟩
theorem Tx.count_one (c : UInt8) : ∀ (n : Nat) (l : List UInt8), l.length ≤ n → Lib.count l [c] = l.count c := by
 intro n
 induction n with
 | zero =>
  intro l h
  obtain rfl : l = [] := List.length_eq_zero_iff.1 (by omega)
  rw [Lib.count_miss (by rw [Tx.index_one]; rfl)]; rfl
 | succ n ih =>
  intro l h
  rcases Tx.indexByte_cases l c with hi | ⟨i, hi⟩
  ·rw [Lib.count_miss (by rw [Tx.index_one]; exact hi), List.count_eq_zero.2 (Tx.indexByte_none hi)]
  ·obtain ⟨h1, h2, h3⟩ := Tx.indexByte_some hi
   rw [Lib.count_hit (by simp) (by rw [Tx.index_one]; exact hi), ih _ (by simp; omega)]
   conv => rhs; rw [h3]
   rw [List.count_append, List.count_eq_zero.2 h2, List.count_cons_self]
   simp [Nat.add_comm]
/-- the words of a line -/
theorem c167 (b : List UInt8) (m : Int) (w : World) (hb : b.length ≤ 1000000) (hm : w.cell? ⟨1, 0, none⟩ = some (.int .i64 m)) :
  Calls Tryz.prog 167 #[.string (Tx.bs b), .string { data := #[32] }] w fun e w' => e = .returned (.slice (some ⟨w.heap.size, 0, none⟩) (Tx.split 32 b).length (Tx.split 32 b).length) ∧ w' = w.alloc (.cells (Tx.cells (Tx.split 32 b)).toArray 9) := by
 have h := Tryz.strings_Split (Tx.bs b) { data := #[32] } m w (by rw [Tx.bs_size]; omega) hm (by decide)
 have hs := Tx.splitB_split 32 (Tx.bs b)
 rw [Tx.bs_toList] at hs
 have hl : Lib.countB (Tx.bs b) { data := #[32] } + 1 = (Tx.split 32 b).length := by
  rw [Tx.split_len, ← Tx.count_one 32 _ b (Nat.le_refl _)]; rfl
 have hc : (Lib.splitB { data := #[32] } 0 (Lib.countB (Tx.bs b) { data := #[32] }) (Tx.bs b)).map Value.string = Tx.cells (Tx.split 32 b) := by
  unfold Tx.cells
  rw [← hs, List.map_map]
  apply List.map_congr_left
  intro x _
  show Value.string x = Value.string (Tx.bs x.data.toList)
  rw [Tx.bs_data]
 rw [hl, hc] at h
 exact h
/-- a line's body, and whether it has its end -/
def Tx.bodyOf (s : List UInt8) : List UInt8 := if Lib.indexByte s 10 = -1 then s else s.take (Lib.indexByte s 10).toNat
def Tx.whole (s : List UInt8) : Bool := decide (Lib.indexByte s 10 ≠ -1)
theorem c137 (s : List UInt8) (w : World) (hs : s.length ≤ 1000000) :
  Calls Tryz.prog 137 #[.string (Tx.bs (Tx.lineOf s)), .string { data := #[10] }] w fun e w' => e = .returned (.tuple #[.string (Tx.bs (Tx.bodyOf s)), .bool (Tx.whole s)]) ∧ w = w' := by
 have hl : (Tx.lineOf s).length ≤ 1000000 := by
  unfold Tx.lineOf
  split
  ·exact hs
  ·rw [List.length_take]; omega
 have h := (Tryz.strings_CutSuffix (Tx.bs (Tx.lineOf s)) { data := #[10] } w (by rw [Tx.bs_size]; omega)).mono (fun e w' h => (⟨h.1, h.2.symm⟩ : _ ∧ w = w'))
 rw [Tx.bs_toList] at h
 have h2 : Lib.hasSuffix (Tx.lineOf s) [10] = Tx.whole s ∧ Lib.trimSuffix (Tx.lineOf s) [10] = Tx.bodyOf s := by
  rcases Tx.indexByte_cases s 10 with hi | ⟨i, hi⟩
  ·have hw : Tx.whole s = false := by unfold Tx.whole; rw [hi]; rfl
   have hb : Tx.bodyOf s = s := by unfold Tx.bodyOf; rw [if_pos hi]
   rw [(Tx.line_miss hi).1, hw, hb]
   have hn : Lib.hasSuffix s [10] = false := by
    unfold Lib.hasSuffix
    rw [Bool.eq_false_iff]
    intro h
    have hsuf := List.isSuffixOf_iff_suffix.1 h
    exact Tx.indexByte_none hi (hsuf.subset (by simp))
   exact ⟨hn, by unfold Lib.trimSuffix; rw [hn]; rfl⟩
  ·have hw : Tx.whole s = true := by unfold Tx.whole; rw [hi]; simp
   have hb : Tx.bodyOf s = s.take i := by unfold Tx.bodyOf; rw [if_neg (by omega), hi]; rfl
   obtain ⟨h1, h2, h3⟩ := Tx.indexByte_some hi
   have hl : Tx.lineOf s = s.take i ++ [10] := by
    rw [(Tx.line_hit hi).1]
    conv => lhs; rw [h3]
    rw [show i + 1 = (s.take i).length + 1 by rw [List.length_take]; omega, List.take_append, List.take_of_length_le (by omega)]
    simp
   rw [hl, hw, hb]
   have hy : Lib.hasSuffix (s.take i ++ [10]) [10] = true := by
    unfold Lib.hasSuffix
    exact List.isSuffixOf_iff_suffix.2 (List.suffix_append _ _)
   exact ⟨hy, by unfold Lib.trimSuffix; rw [hy]; simp⟩
 rw [show ([10] : List UInt8) = ({ data := #[10] } : ByteArray).data.toList from rfl] at h2
 rw [h2.1, h2.2] at h
 exact h
end Go.Proofs.YtdimmlljjmmdbaaGreatDoor
namespace Go.Proofs.YtdimmlljjmmdbaaGreatDoor
open Go.RowKit Go.Shelf
set_option maxHeartbeats 8000000
set_option maxRecDepth 100000
/-- what the program's 'numbers' returns -/
def NQ (w : World) (o : Option (List Int)) (n : Nat) (en : Ending) (w' : World) : Prop :=
 (∀ l, o = some l → ∃ A cap, en = .returned (.tuple #[.slice A n cap, .bool true]) ∧ RdI w' A n l ∧ ∀ g off, A = .some ⟨g, off, .none⟩ → w.heap.size ≤ g) ∧ (o = none → ∃ A k cap, en = .returned (.tuple #[.slice A k cap, .bool false])) ∧ Below w.heap.size w w'
theorem NQ.none {w w' : World} {n k cap : Nat} {A : Option Addr} {o : Option (List Int)} (h : o = .none) (hb : Below w.heap.size w w') : NQ w o n (.returned (.tuple #[.slice A k cap, .bool false])) w' := ⟨fun l e => (by rw [h] at e; cases e), fun _ => ⟨_, _, _, rfl⟩, hb⟩
theorem NQ.some {w w' : World} {n cap : Nat} {o : Option (List Int)} {l : List Int} {A : Option Addr} (h : o = .some l) (hr : RdI w' A n l) (hg : ∀ g off, A = .some ⟨g, off, .none⟩ → w.heap.size ≤ g) (hb : Below w.heap.size w w') : NQ w o n (.returned (.tuple #[.slice A n cap, .bool true])) w' := ⟨fun l' e => (by rw [h] at e; cases e; exact ⟨A, cap, rfl, hr, hg⟩), fun e => (by rw [h] at e; cases e), hb⟩
theorem tail_slice (g M : Nat) : ∃ A', (∀ W : World, (Instr.slice 140 (.slice (some ⟨g, 0, none⟩) (M + 1) (M + 1)) (some (.int .i64 1)) none none).run Tryz.prog W = .ok (.slice (some A') M M) W) ∧ (0 < M → A' = ⟨g, 1, none⟩) := by
 refine ⟨if M = 0 then ⟨g, 0, none⟩ else ⟨g, 1, none⟩, fun W => ?_, fun h => by rw [if_neg (by omega)]⟩
 rw [run_slice_l (P := Tryz.prog) W 140 (some ⟨g, 0, none⟩) (M + 1) (M + 1) (by kernel_rfl) .i64 1 (by omega) (by omega)]
 have hse : (sizeOf (Tryz.prog.elem 140)).run Tryz.prog W = .ok 1 W := by
  have : Tryz.prog.elem 140 = 9 := by kernel_rfl
  rw [this]
  go_simp
 rw [hse]
 simp only [Result.andThen_ok, sliced, Nat.add_sub_cancel, Int.toNat_one]
 by_cases h0 : M = 0
 ·subst h0; simp
 ·rw [if_neg (by omega), if_neg h0]
  simp [Addr.add]
theorem gb_only {W w w' : World} {b : Nat} (h : W.grownBy w (some b)) (k : Only b w w') : W.grownBy w' (some b) :=
 ⟨k.bel.os.trans h.os, k.bel.tape.trans h.tape, k.bel.output.trans h.output, Nat.le_trans h.size k.size, fun i hi hne => by
  have e := h.block i hi hne
  obtain ⟨o, ho⟩ : ∃ o, W.heap[i]? = some o := ⟨_, Array.getElem?_eq_getElem hi⟩
  rw [ho] at e ⊢
  exact k.same i o e (fun e2 => hne (by rw [e2]))⟩
theorem gb_call9 {W w w' : World} {go : Nat} (h : W.grownBy w (some go)) (hb : Below W.heap.size w w') : W.grownBy w' (some go) :=
 ⟨hb.os.trans h.os, hb.tape.trans h.tape, hb.output.trans h.output, Nat.le_trans h.size hb.size, fun k hk hne => (hb.block k hk).trans (h.block k hk hne)⟩
theorem gb_below9 {W w : World} {go B : Nat} (h : W.grownBy w (some go)) (h1 : B ≤ W.heap.size) (h2 : B ≤ go) : Below B W w := (Below.refl B W).grown h h1 (fun j hj => by cases hj; exact h2)
theorem own_only {w w' : World} {B b : Nat} {A : Option Addr} {n c m : Nat} {xs : List Value} (h : Own w B (.slice A n c) m xs) (hg : Only b w w') (hgo : b < B) : Own w' B (.slice A n c) m xs := by
 refine ⟨h.1, ?_⟩
 rcases h.2 with h2 | ⟨g, cap, cur, e, hb, hh, h3⟩
 ·exact .inl h2
 ·exact .inr ⟨g, cap, cur, e, hb, hg.same g _ hh (by omega), h3⟩
theorem Tkr.belowB {w w' : World} {b B : Nat} {ws : List (List UInt8)} {wr : Bool} {A : Option Addr} (h : Tkr w b ws wr A) (hb : Below B w w') (hB : b < B) : Tkr w' b ws wr A := by
 refine ⟨(hb.block b hB).trans h.blk, fun x r e => ?_⟩
 obtain ⟨g, off, hA, hg, hc⟩ := h.rd x r e
 exact ⟨g, off, hA, hg, fun j hj => (hb.cell (p := ⟨g, off + j, none⟩) (Nat.lt_trans hg hB)).trans (hc j hj)⟩
theorem nums_all {word : List UInt8} {n : Nat} {b : List UInt8} {ws : List (List UInt8)} (h : Tx.split 32 b = word :: ws) (ha : ws.all Tx.num = false) : Tx.nums word n b = none := by
 unfold Tx.nums; rw [h]; simp only; rw [if_neg (fun h => by rw [ha] at h; cases h.2.2)]
theorem iv_all : ∀ {ws : List (List UInt8)}, ws.all Tx.num = true → (ws.map fun y => (Tx.iv y : Int)) = ws.map fun y => (Tx.val y : Int)
 | [], _ => rfl
 | y :: ws, h => by
  simp only [List.all_cons, Bool.and_eq_true] at h
  rw [List.map_cons, List.map_cons, iv_all h.2, Tx.iv_num h.1]
theorem c138 (b word : List UInt8) (n : Nat) (m0 : Int) (w : World) (hb : b.length ≤ 1000000) (hn : n ≤ 1000000000) (hm0 : w.cell? ⟨1, 0, none⟩ = some (.int .i64 m0)) : Calls Tryz.prog 138 #[.string (Tx.bs b), .string (Tx.bs word), .int .i64 n] w (NQ w (Tx.nums word n b) n) := by
 obtain ⟨x, ws, hsp⟩ : ∃ x ws, Tx.split 32 b = x :: ws := by
  cases h : Tx.split 32 b with
  | nil => exact absurd h (Tx.split_ne 32 b)
  | cons x ws => exact ⟨x, ws, rfl⟩
 have h167 := c167 b m0 w hb hm0
 obtain ⟨m, hm⟩ : ∃ m, m = ws.length := ⟨_, rfl⟩
 have hml := Tx.split_len_le 32 b
 have hpc := Tx.piece_le (c := 32) (l := b)
 have hlm : (x :: ws).length = m + 1 := by simp [hm]
 rw [hsp] at hml h167 hpc
 rw [hlm] at h167 hml
 have hmb : m ≤ 1000000 := by omega
 have HPC : Hid (∀ p ∈ x :: ws, p.length ≤ 1000000) := Lib.hid (fun p hp => by have := hpc p hp; omega)
 have H167 := Lib.hid h167
 have HM := Lib.hid hm
 have HSP := Lib.hid hsp
 clear h167 hml hlm hm hsp hb hpc
 obtain ⟨BB, hBB⟩ : ∃ L, L = Tx.bs b := ⟨_, rfl⟩
 rw [← hBB] at H167 ⊢
 clear hBB
 obtain ⟨n1, hn1⟩ : ∃ z : Int, z = 1 + (n : Int) := ⟨_, rfl⟩
 have hwn : IntKind.i64.wrap (1 + (n : Int)) = n1 := by rw [hn1, wrapI (by omega)]
 have HN1 := Lib.hid hn1
 clear hn1
 go_enter Tryz.func138, Tryz.ntmps138
 go_wp2_with fail
 refine H167.out.mono ?_
 rintro e w1 ⟨rfl, hw1⟩
 have hB1 : Below w.heap.size w w1 := by rw [hw1]; exact bl2 _ _
 have hT0 : w1.heap[w.heap.size]? = some (.cells (Tx.cells (x :: ws)).toArray 9 (0, 0)) := by rw [hw1]; exact heap_new rfl
 have q0 : w1.cell? ⟨w.heap.size, 0, none⟩ = some (.string (Tx.bs x)) := cell_at hT0 (by simp [Tx.cells])
 clear hw1
 have hm0 : (0 : Int) < (m : Int) + 1 := by omega
 obtain ⟨X, hX⟩ : ∃ L, L = Tx.bs x := ⟨_, rfl⟩
 obtain ⟨Y, hY⟩ : ∃ L, L = Tx.bs word := ⟨_, rfl⟩
 rw [← hX] at q0
 rw [← hY]
 by_cases hxw : x = word
 rotate_left
 ·have hP := Lib.hid (Tx.nums_word (word := word) (n := n) HSP.out hxw)
  have hxy : (X.toList == Y.toList) = false := by
   rw [hX, hY, bs_tl, bs_tl]
   simpa using hxw
  clear hX hY hxw hT0
  go_wp2
  go_ret2
  exact NQ.none hP.out hB1
 subst hxw
 have hxy : (X.toList == Y.toList) = true := by rw [hX, hY]; simp
 clear hX hY
 by_cases hmn : m = n
 rotate_left
 ·have hP := Lib.hid (Tx.nums_len (word := x) (n := n) HSP.out (by rw [← HM.out]; exact hmn))
  have hne : (((m : Int) + 1) != n1) = true := by
   have := HN1.out
   simp only [bne_iff_ne, ne_eq]; omega
  clear hmn hT0
  go_wp2
  go_ret2
  exact NQ.none hP.out hB1
 subst hmn
 have hne : (((m : Int) + 1) != n1) = false := by have := HN1.out; simp only [bne_eq_false_iff_eq]; omega
 obtain ⟨A', hsl, hA'⟩ := tail_slice w.heap.size m
 obtain ⟨w2, hw2⟩ : ∃ W, W = w1.alloc (Obj.cells #[.slice (some A') m m, .bool false] 231) := ⟨_, rfl⟩
 have hb2 := bl2 w1 (Obj.cells #[.slice (some A') m m, .bool false] 231)
 rw [← hw2] at hb2
 have HB2 := Lib.hid (hB1.call hb2 rfl)
 have HTK : Hid (Tkr w2 w1.heap.size ws false (some A')) := Lib.hid ⟨by rw [← HM.out, hw2]; exact heap_new rfl, fun y r e => by
  have h0 : 0 < m := by rw [HM.out, e]; simp
  refine ⟨w.heap.size, 1, by rw [hA' h0], (Array.getElem?_eq_some_iff.1 hT0).1, fun j hj => ?_⟩
  have h1 := cell_at (i := j + 1) (v := .string (Tx.bs (ws[j]'hj))) (blkb hT0 hb2) (by simp [Tx.cells, hj])
  rw [show 1 + j = j + 1 by omega, h1]
  simp [Tx.cells, hj]⟩
 have hsz2 : w2.heap.size = w1.heap.size + 1 := by rw [hw2]; simp
 obtain ⟨ivs, hivs⟩ : ∃ v : List Int, v = ws.map fun y => (Tx.iv y : Int) := ⟨_, rfl⟩
 have HIV := Lib.hid hivs
 have HS2 := Lib.hid hsz2
 have HW1 := Lib.hid hB1.size
 go_wp2_with fail
 rw [← hw2]
 clear hw2 hb2 hT0 hsz2 hivs hA' hsl hne hxy q0 hm0 hB1
 obtain ⟨bt, hbt⟩ : ∃ b, b = w1.heap.size := ⟨_, rfl⟩
 rw [← hbt] at HTK HS2 HW1 ⊢
 clear hbt
 go_loopw [11, 34] (fun v iv wr => ∃ (k : Nat) (wg : Bool) (A : Option Addr), k ≤ m ∧ iv = .int .i64 k ∧ Hid (Own wr w2.heap.size v k (encI (ivs.take k))) ∧ Hid (Tkr wr bt (ws.drop k) wg A) ∧ Hid (wg = !((ws.take k).all Tx.num)) ∧ Hid (w2.grownBy wr (some bt))) (fun _ iv _ => m - (intOf iv).toNat)
 case atStart => exact ⟨0, false, some A', Nat.zero_le _, rfl, Lib.hid (World.ownsRow_nil _ _ _ _), HTK, Lib.hid rfl, Lib.hid ⟨rfl, rfl, rfl, Nat.le_refl _, fun _ _ _ => rfl⟩⟩
 case round =>
  clear HTK
  obtain ⟨k, wg, A, hk, rfl, HOW, HT, HWG, RG⟩ := hrel
  obtain ⟨VA, vc, rfl⟩ := own_slice HOW.out
  have hwk : IntKind.i64.wrap ((k : Int) + 1) = ((k + 1 : Nat) : Int) := by rw [wrapI (by omega)]; simp
  by_cases hlt : k < m
  ·have hlt2 : (k : Int) < (m : Int) := by omega
   obtain ⟨y, hy⟩ : ∃ y, ws[k]? = some y := ⟨ws[k]'(by rw [← HM.out]; exact hlt), List.getElem?_eq_getElem _⟩
   have hd : ws.drop k = y :: ws.drop (k + 1) := by
    obtain ⟨h1, e1⟩ := List.getElem?_eq_some_iff.1 hy
    rw [List.drop_eq_getElem_cons h1, e1]
   have htk := HT.out
   rw [hd] at htk
   have K168 := Lib.hid (c168 bt y (ws.drop (k + 1)) wg A wr (by rw [List.length_drop, ← HM.out]; omega) (HPC.out y (by simp [List.mem_of_getElem? hy])) htk)
   have HY := Lib.hid hy
   clear hy hd htk
   go_wp2_with fail
   refine K168.out.mono ?_
   rintro e w3 ⟨A2, rfl, ht3, ho3⟩
   have htk : ivs.take (k + 1) = ivs.take k ++ [(Tx.iv y : Int)] := by rw [List.take_add_one, HIV.out, List.getElem?_map, HY.out]; rfl
   have HTK := Lib.hid htk
   have HWN : Hid ((wg || !Tx.num y) = !((ws.take (k + 1)).all Tx.num)) := Lib.hid (by
    rw [List.take_add_one, HY.out, List.all_append, HWG.out]
    simp [Bool.not_and])
   have hbt2 : bt < w2.heap.size := by have := HS2.out; omega
   have RG3 := gb_only RG.out ho3
   have hsz := RG3.size
   have how3 := own_only HOW.out ho3 hbt2
   obtain ⟨I, hI⟩ : ∃ z : Int, z = (Tx.iv y : Int) := ⟨_, rfl⟩
   rw [← hI] at HTK ⊢
   have how2 : Own (w3.alloc (Obj.cells #[.int .i64 I] 3)) w2.heap.size (.slice VA k vc) k (encI (ivs.take k)) := how3.alloc _
   have RG4 := Lib.hid (gb_call9 RG3 ((bl2 w3 (Obj.cells #[.int .i64 I] 3)).mono hsz))
   have HT4 := Lib.hid (ht3.below (bl2 w3 (Obj.cells #[.int .i64 I] 3)))
   have HBT := Lib.hid hbt2
   clear htk ho3 ht3 RG3 how3 hI hbt2
   go_wp2_with (at_builtin; refine wpList_app_ints rfl _ _ rfl w2.heap.size (.slice VA k vc) k (ivs.take k) [I] rfl how2 (some ⟨w3.heap.size, 0, none⟩) 1 1 rfl (RdS.of_new (cs := encI [I]) rfl rfl) (by omega) (by simp; omega) ?_)
   intro v' w5 hown5 hb5
   have HO : Hid (Own w5 w2.heap.size v' (k + 1) (encI (ivs.take (k + 1)))) := Lib.hid (by rw [HTK.out]; exact hown5)
   have RG5 := Lib.hid (gb_call9 RG4.out hb5)
   have HT5 := Lib.hid (HT4.out.belowB hb5 HBT.out)
   clear hown5 hb5 how2 hsz
   go_wp2
   go_roundw
   case rel => exact ⟨k + 1, _, A2, by omega, by go_num, HO, HT5, HWN, RG5⟩
   case measure => simp [intOf]; omega
  ·obtain rfl : m = k := by omega
   have q1 : wr.cell? ⟨bt, 1, none⟩ = some (.bool wg) := cell_at HT.out.blk rfl
   have z1 := cell_lt q1
   have HF := Lib.hid (HB2.out.trans (gb_below9 RG.out HB2.out.size HW1.out))
   have hwa : wg = !(ws.all Tx.num) := by
    have h := HWG.out
    rw [List.take_of_length_le (by rw [← HM.out]; exact Nat.le_refl _)] at h
    exact h
   have hO : Own wr w2.heap.size (.slice VA m vc) m (encI ivs) := by
    have h := HOW.out
    rw [List.take_of_length_le (by rw [HIV.out, List.length_map, ← HM.out]; exact Nat.le_refl _)] at h
    exact h
   obtain ⟨A3, c3, e3, hr3⟩ := own_rdI hO
   have HGB : Hid (∀ g off, VA = .some ⟨g, off, .none⟩ → w.heap.size ≤ g) := Lib.hid (fun g off e => by
    rw [e] at hO
    exact Nat.le_trans HB2.out.size (own_base hO g rfl))
   cases e3
   have HR3 := Lib.hid hr3
   have HWA := Lib.hid hwa
   clear hO hr3 hlt hk hwk hwa
   go_wp2_with fail
   refine wp_region_plan [(0, true), (1, true), (2, true), (3, true), (4, true), (5, true), (6, true), (7, true)] wr.heap.size (by kernel_rfl) (by kernel_rfl) (Nat.le_refl _) (fun _ _ d _ _ h => by cases d <;> exact h) ?_
   have hC : Below wr.heap.size wr wr := Below.refl _ _
   repeat (first | (refine wpPlanA_skip _ rfl (by rfl) ?_; simp only [Act.put, List.setIfInBounds_toArray, List.set_cons_zero, List.set_cons_succ]) | (refine wpPlanA_soft _ ?_ rfl (by rfl) ?_ ?_; rotate_left; (intro wq hq hcq; go_simp; first | exact rfl | exact ⟨rfl, rfl⟩); simp only [Act.put, List.setIfInBounds_toArray, List.set_cons_zero, List.set_cons_succ]))
   refine wpPlanA_nil (fun w5 hS5 => ?_)
   have HF5 := Lib.hid (HF.out.call hS5 rfl)
   have HR5 := Lib.hid (HR3.out.below hS5)
   clear hS5 q1 z1
   go_wp2
   go_ret2
   cases wg
   ·have ha : ws.all Tx.num = true := by have := HWA.out; simpa using this.symm
    refine NQ.some (Tx.nums_ok HSP.out HM.out.symm ha) ?_ HGB.out HF5.out
    rw [← iv_all ha, ← HIV.out]
    exact HR5.out
   ·have ha : ws.all Tx.num = false := by have := HWA.out; simpa using this.symm
    exact NQ.none (nums_all HSP.out ha) HF5.out
end Go.Proofs.YtdimmlljjmmdbaaGreatDoor
namespace Go.Proofs.YtdimmlljjmmdbaaGreatDoor
open Go.RowKit Go.Shelf
set_option maxHeartbeats 8000000
set_option maxRecDepth 100000
/-- a number in digits -/
def tx (x : Int) : ByteArray := ⟨(Lib.decDigits x.toNat).toArray⟩
theorem ba_app (a b : List UInt8) : (⟨a.toArray⟩ : ByteArray) ++ ⟨b.toArray⟩ = ⟨(a ++ b).toArray⟩ := mk_app a b
/-- a row of numbers, each behind a blank -/
def rowX (l : List Int) : List UInt8 := l.flatMap fun x => 32 :: (tx x).data.toList
theorem join_row (w : List UInt8) : ∀ l : List Int, Lib.join (w :: l.map fun x => (tx x).data.toList) [32] = w ++ rowX l
 | [] => by simp [Lib.join, rowX]
 | x :: l => by
  have ih := join_row (tx x).data.toList l
  have e : ∀ (a : List UInt8) (L : List (List UInt8)), Lib.join (w :: a :: L) [32] = w ++ (32 :: Lib.join (a :: L) [32]) := fun a L => by simp [Lib.join, List.intercalate, List.intersperse]
  rw [List.map_cons, e, ih]
  simp [rowX]
theorem lineB_row (w : ByteArray) (l : List Int) : lineB w (l.map tx) = ⟨(w.data.toList ++ rowX l ++ [10]).toArray⟩ := by
 unfold lineB
 rw [List.map_cons, List.map_map]
 have h := join_row w.data.toList l
 have e : (fun x : ByteArray => x.data.toList) ∘ tx = fun x => (tx x).data.toList := rfl
 rw [e, h]
 exact ba_app _ [10]
end Go.Proofs.YtdimmlljjmmdbaaGreatDoor
/- Plain laws for the texts of grounds: what is printed is parsed, what is parsed is printed. -/
namespace Go.Proofs.YtdimmlljjmmdbaaGreatDoor
namespace Tx
open Go.Lib
theorem dig_ne {c x : UInt8} (h : isDig c = true) (hx : x.toNat < 48) : c ≠ x := by
 intro e; subst e
 have := isDig_le h
 omega
theorem dec_mem (u : Nat) (x : UInt8) (hx : x.toNat < 48) : x ∉ decDigits u := by
 intro h
 have := List.all_eq_true.1 (dec_all u) x h
 exact dig_ne this hx rfl
/-- the body of a line -/
def rowL (w : List UInt8) (l : List Int) : List UInt8 := w ++ rowX l
theorem rowX_cons (x : Int) (l : List Int) : rowX (x :: l) = 32 :: (decDigits x.toNat ++ rowX l) := rfl
theorem rowX_mem (l : List Int) : (10 : UInt8) ∉ rowX l := by
 induction l with
 | nil => simp [rowX]
 | cons x t ih =>
  rw [rowX_cons]
  simp only [List.mem_cons, List.mem_append, not_or]
  exact ⟨by decide, dec_mem _ _ (by decide), ih⟩
theorem rowL_mem {w : List UInt8} (hw : (10 : UInt8) ∉ w) (l : List Int) : (10 : UInt8) ∉ rowL w l := by
 unfold rowL
 simp only [List.mem_append, not_or]
 exact ⟨hw, rowX_mem l⟩
theorem rowL_split : ∀ {l : List Int} {w : List UInt8}, (32 : UInt8) ∉ w → split 32 (rowL w l) = w :: l.map fun x => decDigits x.toNat
 | [], w, h => by simp [rowL, rowX, split_none h]
 | x :: t, w, h => by
  unfold rowL
  rw [rowX_cons, split_app _ h]
  have := rowL_split (l := t) (w := decDigits x.toNat) (dec_mem _ _ (by decide))
  unfold rowL at this
  rw [this]; rfl
theorem rowL_nums {w : List UInt8} {l : List Int} (hw : (32 : UInt8) ∉ w) (hl : ∀ x ∈ l, 0 ≤ x ∧ x < 1000000000) : nums w l.length (rowL w l) = some l := by
 rw [nums_ok (rowL_split hw) (by simp) ?_]
 ·rw [List.map_map]
  congr 1
  conv => rhs; rw [← List.map_id l]
  apply List.map_congr_left
  intro x hx
  have := hl x hx
  show ((val (decDigits x.toNat) : Nat) : Int) = x
  rw [dec_val]; omega
 ·rw [List.all_eq_true]
  intro y hy
  obtain ⟨x, hx, rfl⟩ := List.mem_map.1 hy
  have := hl x hx
  exact dec_num _ (by omega)
theorem join_blank (w : List UInt8) : ∀ ws : List (List UInt8), ([32] : List UInt8).intercalate (w :: ws) = w ++ ws.flatMap (fun x => 32 :: x)
 | [] => by simp [List.intercalate]
 | x :: l => by
  have ih := join_blank x l
  have e : ∀ (a : List UInt8) (L : List (List UInt8)), ([32] : List UInt8).intercalate (w :: a :: L) = w ++ (32 :: ([32] : List UInt8).intercalate (a :: L)) := fun a L => by simp [List.intercalate, List.intersperse]
  rw [e, ih]
  simp
theorem fm_congr {f g : List UInt8 → List UInt8} : ∀ {l : List (List UInt8)}, (∀ y ∈ l, f y = g y) → l.flatMap f = l.flatMap g
 | [], _ => rfl
 | y :: t, h => by
  rw [List.flatMap_cons, List.flatMap_cons, h y (by simp), fm_congr (fun z hz => h z (by simp [hz]))]
theorem nums_row {w b : List UInt8} {n : Nat} {l : List Int} (h : nums w n b = some l) : b = rowL w l := by
 have hj := split_join (c := 32) b
 unfold nums at h
 split at h
 ·cases h
 ·rename_i x ws hs
  split at h
  ·rename_i hc
   obtain ⟨rfl, _, hall⟩ := hc
   rw [← Option.some.inj h]
   rw [hs, join_blank] at hj
   rw [← hj]
   unfold rowL rowX
   congr 1
   rw [List.flatMap_map]
   refine fm_congr (fun y hy => ?_)
   have hn := List.all_eq_true.1 hall y hy
   show 32 :: y = 32 :: decDigits (val y : Int).toNat
   rw [Int.toNat_natCast, num_dec hn]
  ·cases h
/-- the rows of a ground -/
def rws (c : Nat) : Nat → List Int → List (List UInt8)
 | 0, _ => []
 | m + 1, l => rowL wR (l.take c) :: rws c m (l.drop c)
theorem rws_length (c : Nat) : ∀ m l, (rws c m l).length = m
 | 0, _ => rfl
 | m + 1, l => by simp [rws, rws_length c m]
theorem rws_snoc (c : Nat) : ∀ (m : Nat) (l : List Int), rws c (m + 1) l = rws c m l ++ [rowL wR (Im.rowK c l m)]
 | 0, l => by simp [rws, Im.rowK]
 | m + 1, l => by
  have ih := rws_snoc c m (l.drop c)
  have e : Im.rowK c (l.drop c) m = Im.rowK c l (m + 1) := by
   unfold Im.rowK
   rw [List.drop_drop]
   congr 2
   rw [Nat.add_mul]; omega
  rw [e] at ih
  show rowL wR (l.take c) :: rws c (m + 1) (l.drop c) = _
  rw [ih]; rfl
theorem rws_mem (c : Nat) : ∀ (m : Nat) (l : List Int), ∀ b ∈ rws c m l, (10 : UInt8) ∉ b
 | 0, _, b, h => by simp [rws] at h
 | m + 1, l, b, h => by
  rcases List.mem_cons.1 h with rfl | h
  ·exact rowL_mem (by decide) _
  ·exact rws_mem c m _ b h
/-- lines with their ends -/
def txtL (ls : List (List UInt8)) : List UInt8 := ls.flatMap (· ++ [10])
theorem txtL_snoc (ls : List (List UInt8)) (b : List UInt8) : txtL (ls ++ [b]) = txtL ls ++ (b ++ [10]) := by simp [txtL]
theorem txtL_split : ∀ {ls : List (List UInt8)} (t : List UInt8), (∀ b ∈ ls, (10 : UInt8) ∉ b) → split 10 (txtL ls ++ t) = ls ++ split 10 t
 | [], _, _ => rfl
 | b :: l, t, h => by
  show split 10 ((b ++ [10]) ++ txtL l ++ t) = _
  rw [List.append_assoc, List.append_assoc, List.singleton_append, split_app _ (h b (by simp)), txtL_split t (fun x hx => h x (by simp [hx]))]
  rfl
theorem join_lines : ∀ (pre : List (List UInt8)), ([10] : List UInt8).intercalate (pre ++ [[]]) = txtL pre
 | [] => rfl
 | b :: r => by
  have ih := join_lines r
  unfold txtL at ih ⊢
  cases r with
  | nil => simp [List.intercalate, List.intersperse]
  | cons a t =>
   simp [List.intercalate, List.intersperse] at ih ⊢
   exact ih
def grL (c r : Nat) (l : List Int) : List (List UInt8) := rowL wG [(c : Int), (r : Int)] :: rws c r l
/-- the text of a ground -/
def grT (c r : Nat) (l : List Int) : List UInt8 := txtL (grL c r l)
theorem prT_grT (c : Nat) (l : List Int) (h : List (List UInt8)) : ∀ k, prT tx c l ⟨(txtL h).toArray⟩ k = ⟨(txtL (h ++ rws c k l)).toArray⟩
 | 0 => by simp [prT, rws]
 | k + 1 => by
  unfold prT
  rw [prT_grT c l h k, lineB_row, rws_snoc, ← List.append_assoc, txtL_snoc, ba_app]
  rfl
theorem prT_text (c r : Nat) (l : List Int) : prT tx c l (lineB { data := #[103, 114, 111, 117, 110, 100] } [tx c, tx r]) r = ⟨(grT c r l).toArray⟩ := by
 have h := prT_grT c l [rowL wG [(c : Int), (r : Int)]] r
 have e : lineB { data := #[103, 114, 111, 117, 110, 100] } [tx c, tx r] = ⟨(txtL [rowL wG [(c : Int), (r : Int)]]).toArray⟩ := by
  have := lineB_row { data := #[103, 114, 111, 117, 110, 100] } [(c : Int), (r : Int)]
  simp only [List.map_cons, List.map_nil] at this
  rw [this]
  simp [txtL, rowL, wG]
 rw [e, h]
 rfl
theorem grL_mem (c r : Nat) (l : List Int) : ∀ b ∈ grL c r l, (10 : UInt8) ∉ b := by
 intro b h
 rcases List.mem_cons.1 h with rfl | h
 ·exact rowL_mem (by decide) _
 ·exact rws_mem c r l b h
theorem gr_range {c r : Nat} {l : List Int} (g : Im.Gr c r l) : ∀ x ∈ l, 1 ≤ x ∧ x ≤ 100 := by
 intro x hx
 obtain ⟨i, hi, rfl⟩ := List.getElem_of_mem hx
 have h1 := g.lo i hi
 have h2 := g.hi i hi
 simp [Im.at0, List.getD_eq_getElem?_getD, hi] at h1 h2
 exact ⟨h1, h2⟩
theorem prs_rows (c : Nat) (r : Int) : ∀ (m : Nat) (l' pre : List Int) (k : Nat) (tail : List (List UInt8)), 1 ≤ k → tail ≠ [] → m * c ≤ l'.length → (∀ x ∈ l', 0 ≤ x ∧ x < 1000000000) →
  prs ⟨c, r, pre⟩ k (rws c m l' ++ tail) = prs ⟨c, r, pre ++ l'.take (m * c)⟩ (k + m) tail
 | 0, l', pre, k, tail, _, _, _, _ => by simp [rws]
 | m + 1, l', pre, k, tail, hk, ht, hl, hx => by
  have hm : (m + 1) * c = m * c + c := by rw [Nat.add_mul]; omega
  have hlen : (l'.take c).length = c := by rw [List.length_take]; omega
  have hst : stepG ⟨c, r, pre⟩ k (rowL wR (l'.take c)) = some ⟨c, r, pre ++ l'.take c⟩ := by
   unfold stepG
   rw [if_neg (by omega)]
   have := rowL_nums (w := wR) (l := l'.take c) (by decide) (fun x h => hx x (List.mem_of_mem_take h))
   rw [hlen] at this
   simp only [Int.toNat_natCast]
   rw [this]; rfl
  have hsplit : ∃ b2 more, rws c m (l'.drop c) ++ tail = b2 :: more := by
   cases h : rws c m (l'.drop c) ++ tail with
   | nil => simp at h; exact absurd h.2 ht
   | cons b2 more => exact ⟨_, _, rfl⟩
  obtain ⟨b2, more, hbm⟩ := hsplit
  show prs _ k (rowL wR (l'.take c) :: (rws c m (l'.drop c) ++ tail)) = _
  rw [hbm, prs_some hst, ← hbm, prs_rows c r m (l'.drop c) (pre ++ l'.take c) (k + 1) tail (by omega) ht (by rw [List.length_drop]; omega) (fun x h => hx x (List.mem_of_mem_drop h))]
  have e1 : l'.take ((m + 1) * c) = l'.take c ++ (l'.drop c).take (m * c) := by
   rw [hm, Nat.add_comm (m * c) c, List.take_add]
  rw [e1, ← List.append_assoc]
  congr 1
  omega
theorem prs_head {c r : Nat} (hc : c < 1000000000) (hr : r < 1000000000) (tail : List (List UInt8)) (ht : tail ≠ []) : prs zG 0 (rowL wG [(c : Int), (r : Int)] :: tail) = prs ⟨c, r, []⟩ 1 tail := by
 obtain ⟨b2, more, rfl⟩ : ∃ b2 more, tail = b2 :: more := by
  cases tail with
  | nil => exact absurd rfl ht
  | cons a b => exact ⟨_, _, rfl⟩
 refine prs_some ?_
 unfold stepG
 rw [if_pos rfl]
 have := rowL_nums (w := wG) (l := [(c : Int), (r : Int)]) (by decide) (fun x h => by simp at h; omega)
 rw [show nums wG 2 (rowL wG [(c : Int), (r : Int)]) = some [(c : Int), (r : Int)] from this]
 rfl
theorem prs_ground {c r : Nat} {l : List Int} (g : Im.Gr c r l) (hc : c ≤ 16) (hr : r ≤ 16) : prs zG 0 (split 10 (grT c r l)) = (⟨c, r, l⟩, 0, 0) := by
 have hs := txtL_split (ls := grL c r l) [] (grL_mem c r l)
 rw [List.append_nil, show split 10 ([] : List UInt8) = [[]] from rfl] at hs
 have hlen : r * c = l.length := by rw [g.len, Nat.mul_comm]
 unfold grT
 rw [hs]
 unfold grL
 rw [List.cons_append, prs_head (by omega) (by omega) _ (by simp), prs_rows c r r l [] 1 [[]] (by omega) (by simp) (by omega) (fun x hx => by have := gr_range g x hx; omega)]
 rw [hlen, List.take_length, List.nil_append]
 unfold prs
 rw [if_neg (by simp), if_neg (by simp; omega), if_neg (by rw [Mo.ground_of g hc hr]; simp)]
theorem grT_lines (c r : Nat) (l : List Int) : (split 10 (grT c r l)).length = r + 2 := by
 have hs := txtL_split (ls := grL c r l) [] (grL_mem c r l)
 rw [List.append_nil, show split 10 ([] : List UInt8) = [[]] from rfl] at hs
 unfold grT
 rw [hs]
 simp [grL, rws_length]
theorem rowX_length : ∀ {l : List Int}, (∀ x ∈ l, x < 1000) → (rowX l).length ≤ 4 * l.length
 | [], _ => by simp [rowX]
 | x :: t, h => by
  have h1 := rowX_length (l := t) (fun y hy => h y (by simp [hy]))
  have h2 := dec_len x.toNat 2 (by have := h x (by simp); omega)
  rw [rowX_cons]
  simp only [List.length_cons, List.length_append]
  omega
theorem rws_length_le (c : Nat) : ∀ (m : Nat) (l : List Int), (∀ x ∈ l, x < 1000) → (txtL (rws c m l)).length ≤ m * (4 * c + 4)
 | 0, _, _ => by simp [rws, txtL]
 | m + 1, l, h => by
  have h1 := rws_length_le c m (l.drop c) (fun x hx => h x (List.mem_of_mem_drop hx))
  have h2 := rowX_length (l := l.take c) (fun x hx => h x (List.mem_of_mem_take hx))
  have h3 : (l.take c).length ≤ c := by rw [List.length_take]; omega
  show (((rowL wR (l.take c)) ++ [10]) ++ txtL (rws c m (l.drop c))).length ≤ _
  unfold rowL
  simp only [List.length_append, wR, List.length_cons, List.length_nil]
  rw [Nat.add_mul]
  omega
theorem grT_length {c r : Nat} {l : List Int} (g : Im.Gr c r l) (hc : c ≤ 16) (hr : r ≤ 16) : (grT c r l).length ≤ 4096 := by
 have h1 := rws_length_le c r l (fun x hx => by have := gr_range g x hx; omega)
 have h2 := rowX_length (l := [(c : Int), (r : Int)]) (fun x hx => by simp at hx; omega)
 have h3 : r * (4 * c + 4) ≤ 16 * 68 := Nat.mul_le_mul hr (by omega)
 show (((rowL wG [(c : Int), (r : Int)]) ++ [10]) ++ txtL (rws c r l)).length ≤ _
 unfold rowL
 simp only [List.length_append, wG, List.length_cons, List.length_nil] at h2 ⊢
 omega
theorem parse_ground {c r : Nat} {l : List Int} (g : Im.Gr c r l) (hc : c ≤ 16) (hr : r ≤ 16) : parseG (grT c r l) = (⟨c, r, l⟩, 0, 0) := by
 have := grT_length g hc hr
 unfold parseG
 rw [if_neg (by omega), prs_ground g hc hr]
theorem grL_last {c r : Nat} {l : List Int} (hr : 1 ≤ r) : grL c r l = (rowL wG [(c : Int), (r : Int)] :: rws c (r - 1) l) ++ [rowL wR (Im.rowK c l (r - 1))] := by
 obtain ⟨m, rfl⟩ : ∃ m, r = m + 1 := ⟨r - 1, by omega⟩
 unfold grL
 rw [rws_snoc]
 rfl
/-- a text without its last byte -/
theorem parse_cut {c r : Nat} {l : List Int} (g : Im.Gr c r l) (hc : c ≤ 16) (hr : r ≤ 16) : parseG ((grT c r l).take ((grT c r l).length - 1)) = (zG, (r : Int), 25) := by
 have hl := grT_length g hc hr
 have r1 := g.r1
 have hm := grL_mem c r l
 have e0 : (grT c r l).take ((grT c r l).length - 1) = txtL (rowL wG [(c : Int), (r : Int)] :: rws c (r - 1) l) ++ rowL wR (Im.rowK c l (r - 1)) := by
  unfold grT
  rw [grL_last r1, txtL_snoc, ← List.append_assoc, List.length_append]
  rw [List.take_append_of_le_length (by simp), List.take_of_length_le (by simp)]
 rw [grL_last r1] at hm
 have hlt : r - 1 < r := by omega
 have hle : (r - 1) * c ≤ l.length := by rw [g.len, Nat.mul_comm c r]; exact Nat.mul_le_mul (by omega) (Nat.le_refl _)
 unfold parseG
 rw [if_neg (by rw [List.length_take]; omega), e0, txtL_split _ (fun b hb => hm b (List.mem_append_left _ hb)), split_none (hm _ (by simp)), List.cons_append, prs_head (by omega) (by omega) _ (by simp),
  prs_rows c r (r - 1) l [] 1 _ (by omega) (by simp) hle (fun x hx => by have := gr_range g x hx; omega)]
 unfold prs
 rw [if_pos (.inl (by simp [rowL, wR]))]
 rw [show (1 + (r - 1)) = r by omega]
/-- what is parsed has been cut as it is -/
theorem prs_back : ∀ (ls : List (List UInt8)) (st : Gd) (k : Nat) (g : Gd) (i : Int), 1 ≤ k → prs st k ls = (g, i, 0) → ls ≠ [] →
  ∃ m l', ls = rws st.c.toNat m l' ++ [[]] ∧ l'.length = m * st.c.toNat ∧ g = ⟨st.c, st.r, st.l ++ l'⟩ ∧ i = 0 ∧ ((k + m : Nat) : Int) - 1 = st.r ∧ Mo.ground g.c g.r g.l = 0
 | [], _, _, _, _, _, _, h => absurd rfl h
 | [last], st, k, g, i, hk, h, _ => by
  unfold prs at h
  split at h
  ·simp at h
  ·rename_i h1
   split at h
   ·simp at h
   ·rename_i h2
    split at h
    ·rename_i h3
     simp at h
     exact absurd h.2.2 h3
    ·rename_i h3
     simp at h h1 h2 h3
     obtain ⟨h4, h5⟩ := h
     subst h4
     exact ⟨0, [], by simp [rws, h1.1], by simp, by simp, h5.symm, by simpa using h2, h3⟩
 | b :: b2 :: more, st, k, g, i, hk, h, _ => by
  cases hst : stepG st k b with
  | none => rw [prs_none hst] at h; simp at h
  | some st' =>
   rw [prs_some hst] at h
   obtain ⟨m, l', e1, e2, e3, e4, e5, e6⟩ := prs_back (b2 :: more) st' (k + 1) g i (by omega) h (by simp)
   unfold stepG at hst
   rw [if_neg (by omega)] at hst
   obtain ⟨l, hl, rfl⟩ := Option.map_eq_some_iff.1 hst
   have hb := nums_row hl
   have hn := nums_length hl
   refine ⟨m + 1, l ++ l', ?_, ?_, ?_, e4, ?_, e6⟩
   ·show _ = (rowL wR ((l ++ l').take st.c.toNat) :: rws st.c.toNat m ((l ++ l').drop st.c.toNat)) ++ [[]]
    rw [← hn, List.take_left', List.drop_left' rfl, ← hb, List.cons_append]
    ·rw [hn]; congr 1
    ·rfl
   ·rw [List.length_append, e2, hn, Nat.add_mul]; simp only; omega
   ·rw [e3]; simp
   ·have e5' : ((k + 1 + m : Nat) : Int) - 1 = st.r := e5
    omega
/-- whatever is parsed is printed as it was -/
theorem text_parse {s : List UInt8} {g : Gd} {i : Int} (h : parseG s = (g, i, 0)) : ∃ c r : Nat, g.c = c ∧ g.r = r ∧ c ≤ 16 ∧ r ≤ 16 ∧ Im.Gr c r g.l ∧ grT c r g.l = s ∧ i = 0 := by
 unfold parseG at h
 split at h
 ·simp at h
 ·have hj := split_join (c := 10) s
  cases hls : split 10 s with
  | nil => exact absurd hls (split_ne 10 s)
  | cons b t =>
   rw [hls] at h hj
   cases t with
   | nil =>
    unfold prs at h
    simp at h
   | cons b2 more =>
    cases hst : stepG zG 0 b with
    | none => rw [prs_none hst] at h; simp at h
    | some st' =>
     rw [prs_some hst] at h
     obtain ⟨m, l', e1, e2, e3, e4, e5, e6⟩ := prs_back (b2 :: more) st' 1 g i (by omega) h (by simp)
     unfold stepG at hst
     rw [if_pos rfl] at hst
     obtain ⟨l, hl, rfl⟩ := Option.map_eq_some_iff.1 hst
     have hb := nums_row hl
     have hn := nums_length hl
     have hnn := nums_nonneg hl
     obtain ⟨x, y, rfl⟩ : ∃ x y, l = [x, y] := by
      match l, hn with
      | [x, y], _ => exact ⟨x, y, rfl⟩
     obtain ⟨c, r, g1, g2, hc, hr, gg⟩ := Mo.ground_ok e6
     refine ⟨c, r, g1, g2, hc, hr, gg, ?_, e4⟩
     subst e3
     simp [zG] at g1 g2 e1 e2 e5 gg ⊢
     subst g1 g2
     have hm : m = r := by omega
     subst hm
     simp at e1
     rw [← hj, hb, e1, ← List.cons_append, join_lines]
     rfl
end Tx
end Go.Proofs.YtdimmlljjmmdbaaGreatDoor
namespace Go
open Go.RowKit
section
variable {P : Program} {ops : Array Oper} {C : World → Prop} {Q : Exit → Act → World → Prop}
theorem wpIn_region_planC {id n lr : Nat} {a : Act} {W : World} (p : List (Nat × Bool)) (L : Nat) (C : World → Prop) (hCg : ∀ w w', C w → Below w.heap.size w w' → C w') (hC0 : C W) (hm : P.follows .mixedOrders = true)
  (hB : (p.length + 1 == ops.size && Region.noSelect ops && Region.planLB .any ops L p (Array.replicate ops.size false)) = true) (hnd : Region.noDefer ops = true) (hQl : ¬ LetsOut Q)
  (hQ : ∀ c a d v w, Q (.panic c) (a.put d v) w → Q (.panic c) a w)
  (h : wpPlanLA P ops C Q L p a W) : (Code.region id ops true).wpIn (Fence.wide.inRound lr) n P Q a W := wpIn_region_any hm (wpAnyIn_of hnd hQl _ _ _ _ (wpAny_planC p L C hCg hC0 hB hQ h))
end
end Go
namespace Go.Proofs.YtdimmlljjmmdbaaGreatDoor
open Go.RowKit Go.Shelf
set_option maxHeartbeats 8000000
set_option maxRecDepth 100000
attribute [local go_sem] Oper.semAt_some
/-- an append of integers, in a round -/
theorem wpListIn_app_ints {F : Fence} {n : Nat} (w : World) {ops : Array Oper} {rest : List Oper} {o : Oper} {a : Act} {Q : Exit → Act → World → Prop} (hg : o.guard = none) (s x : Operand)
  (ho : o.op = .call { callee := .builtin .append, args := #[s, x], argTypes := #[22, 22] })
  (base : Nat) (v : Value) (k : Nat) (xs ys : List Int) (hs : a.eval s = v) (hown : Own w base v k (encI xs))
  (A : Option Addr) (m c : Nat) (hx : a.eval x = .slice A m c) (H : RdI w A m ys) (hnm : k + m ≤ 1000000) (hbase : base ≤ w.heap.size)
  (h : ∀ v' w', Own w' base v' (k + m) (encI (xs ++ ys)) → w.grownBy w' v.ownBlock → wpListIn F n Tryz.prog ops Q rest (a.put o.dst v') w') : wpListIn F n Tryz.prog ops Q (o :: rest) a w := by
 obtain ⟨i0, hi, hz0, hz1, hz2⟩ := info_parts info3
 have e : encI (xs ++ ys) = encI xs ++ encI ys := by simp [encI]
 cases A with
 | none =>
  obtain rfl : m = 0 := RdS.none0 H
  obtain rfl : ys = [] := List.eq_nil_of_length_eq_zero (by simpa [encI] using H.1)
  have hr := run_app_none 22 o.type 3 i0 Tryz.underlying22 hi v k (encI xs) hown c
  have := h v w (by rw [Nat.add_zero, List.append_nil]; exact hown) (grownBy_of_below (Below.refl _ _) _)
  refine wpListIn_plain hg fun K hK' => ?_
  unfold Oper.wpIn
  refine ⟨?_, ?_⟩
  ·simp [Oper.about, ho, resolve, Target.leads, Sem.run_pure]
  ·rw [Oper.semAt_plain F _ _ (by rw [ho]; intro c hc'; cases hc')]
   simp [execOp, ho, resolve, invoke, builtin, hs, hx, hr, Result.andThen]
   exact hK' _ _ this
 | some ad =>
  refine wpListIn_append_own w hg s x 22 ho base 3 i0 (.int .i64 0) 1 8 Tryz.underlying22 hi hz0 hz1 hz2 rfl (by decide) v k (encI xs) hs hown ad m c (encI ys) hx (by rw [H.1]) (RdS.news H (by omega)) (fun u hu => by simp [encI] at hu; obtain ⟨y, _, rfl⟩ := hu; rfl) (by unfold maxLen; omega) (by omega) hbase (fun v' w' h2 h3 _ => h v' w' (by rw [e]; exact h2) h3)
theorem results_blk3 {P : Program} {fn : Func} {a b c : Tmp} {T U V : TypeId} (h : fn.results = #[.cell a T, .cell b U, .cell c V]) {tmps : Array Value} {w : World} {g g2 g3 : Nat} {cs : Array Value} {t : TypeId} {f : Nat × Nat} {x y : Value} (ha : tmps.getD a undef = .pointer (some ⟨g, 0, none⟩)) (hb : tmps.getD b undef = .pointer (some ⟨g2, 0, none⟩)) (hc : tmps.getD c undef = .pointer (some ⟨g3, 0, none⟩)) (hh : w.heap[g]? = some (.cells cs t f))
  (d : TypeDesc) (hu : P.underlying T = some d) (hd : d.isRow = true) (hi : (P.info? T).map (·.size) = some cs.size) (h2 : (loadVar U ⟨g2, 0, none⟩).run P w = .ok x w) (h3 : (loadVar V ⟨g3, 0, none⟩).run P w = .ok y w) : (results fn tmps).run P w = .ok (.tuple #[.agg cs, x, y]) w := by
 have hl := run_loadVar_blk (P := P) hh T d hu hd hi
 have ha' : tmps[a]?.getD undef = .pointer (some ⟨g, 0, none⟩) := by simpa using ha
 have hb' : tmps[b]?.getD undef = .pointer (some ⟨g2, 0, none⟩) := by simpa using hb
 have hc' : tmps[c]?.getD undef = .pointer (some ⟨g3, 0, none⟩) := by simpa using hc
 simp [results, h, ha', hb', hc', asAddr, hl, h2, h3]
theorem nq_cases {w w' : World} {o : Option (List Int)} {n : Nat} {en : Ending} (h : NQ w o n en w') : ∃ A m cap b, en = .returned (.tuple #[.slice A m cap, .bool b]) ∧ (b = true → ∃ l, o = some l ∧ m = n ∧ RdI w' A n l ∧ ∀ g off, A = .some ⟨g, off, .none⟩ → w.heap.size ≤ g) ∧ (b = false → o = none) ∧ Below w.heap.size w w' := by
 obtain ⟨h1, h2, h3⟩ := h
 cases ho : o with
 | none =>
  obtain ⟨A, k, cap, e⟩ := h2 ho
  exact ⟨A, k, cap, false, e, fun h => (by cases h), fun _ => rfl, h3⟩
 | some l =>
  obtain ⟨A, cap, e, h4, h5⟩ := h1 l ho
  exact ⟨A, n, cap, true, e, fun _ => ⟨l, rfl, rfl, h4, h5⟩, fun h => (by cases h), h3⟩
namespace Tx
theorem whole_cases (s : List UInt8) : (whole s = false ∧ split 10 s = [s]) ∨ (whole s = true ∧ split 10 s = bodyOf s :: split 10 (restOf s) ∧ (bodyOf s).length + 1 + (restOf s).length = s.length) := by
 rcases indexByte_cases s 10 with hi | ⟨i, hi⟩
 ·exact .inl ⟨by unfold whole; rw [hi]; rfl, split_miss hi⟩
 ·have hw : whole s = true := by unfold whole; rw [hi]; simp
  have hb : bodyOf s = s.take i := by unfold bodyOf; rw [if_neg (by omega), hi]; rfl
  obtain ⟨h1, _, _⟩ := indexByte_some hi
  refine .inr ⟨hw, by rw [split_hit hi, hb, (line_hit hi).2], ?_⟩
  rw [hb, (line_hit hi).2, List.length_take, List.length_drop]; omega
theorem bodyOf_le (s : List UInt8) : (bodyOf s).length ≤ s.length := by
 unfold bodyOf
 split
 ·exact Nat.le_refl _
 ·rw [List.length_take]; omega
theorem prs_miss {s : List UInt8} (st : Gd) (k : Nat) (h : whole s = false) (hne : s ≠ []) : prs st k (split 10 s) = (zG, (k : Int), 25) := by
 rcases whole_cases s with ⟨_, e⟩ | ⟨e, _⟩
 ·rw [e]; unfold prs; rw [if_pos (.inl hne)]
 ·rw [e] at h; cases h
theorem prs_hit {s : List UInt8} {st : Gd} {k : Nat} (h : whole s = true) : (stepG st k (bodyOf s) = none → prs st k (split 10 s) = (zG, (k : Int), 25)) ∧ ∀ st', stepG st k (bodyOf s) = some st' → prs st k (split 10 s) = prs st' (k + 1) (split 10 (restOf s)) := by
 rcases whole_cases s with ⟨e, _⟩ | ⟨_, e, _⟩
 ·rw [e] at h; cases h
 ·obtain ⟨b2, more, hb⟩ : ∃ b2 more, split 10 (restOf s) = b2 :: more := by
   cases hr : split 10 (restOf s) with
   | nil => exact absurd hr (split_ne _ _)
   | cons b2 more => exact ⟨_, _, rfl⟩
  rw [e, hb]
  exact ⟨fun h => prs_none h, fun st' h => prs_some h⟩
end Tx
/-- the six blocks of Parse, and the row -/
structure GB (r2 r3 r4 g n p : Nat) (w : World) (z2 : Array Value) (e3 e4 gc gr : Int) (x y : Value) (l : List Int) (k : Int) (cur : List UInt8) (W0 W : World) : Prop where
 k2 : W.heap[r2]? = some (.cells z2 35 (0, 0))
 k3 : W.heap[r3]? = some (.cells #[.int .i64 e3] 3 (0, 0))
 k4 : W.heap[r4]? = some (.cells #[.int .i64 e4] 32 (0, 0))
 kg : W.heap[g]? = some (.cells #[.int .i64 gc, .int .i64 gr, x] 35 (0, 0))
 kn : W.heap[n]? = some (.cells #[.int .i64 k] 3 (0, 0))
 kp : W.heap[p]? = some (.cells #[.string (Tx.bs cur)] 9 (0, 0))
 row : Own W (p + 1) y l.length (encI l)
 bel : Below r2 w W
 kf : KeepsFrom (p + 1) W0 W
 sz : p + 1 ≤ W.heap.size
def Ord (w : World) (r2 r3 r4 g n p : Nat) : Prop := w.heap.size = r2 ∧ r3 = r2 + 1 ∧ r4 = r2 + 2 ∧ r4 < g ∧ n = g + 1 ∧ p = g + 2
section
variable {r2 r3 r4 g n p : Nat} {w : World} {z2 : Array Value} {e3 e4 gc gr : Int} {x y : Value} {l : List Int} {k : Int} {cur : List UInt8} {W0 W W' : World}
theorem GB.grow (h : GB r2 r3 r4 g n p w z2 e3 e4 gc gr x y l k cur W0 W) (ho : Ord w r2 r3 r4 g n p) (hb : Below W.heap.size W W') : GB r2 r3 r4 g n p w z2 e3 e4 gc gr x y l k cur W0 W' := by
 obtain ⟨a1, a2, a3, a4, a5, a6⟩ := ho
 have := h.sz
 exact ⟨blkb h.k2 hb, blkb h.k3 hb, blkb h.k4 hb, blkb h.kg hb, blkb h.kn hb, blkb h.kp hb, own_below h.row hb, h.bel.trans (hb.mono (by omega)), h.kf.trans (keepsF_below hb), Nat.le_trans h.sz hb.size⟩
theorem kf_set {B b i : Nat} {cs : Array Value} {t : TypeId} {f : Nat × Nat} (v : Value) (hk : W.heap[b]? = some (.cells cs t f)) : KeepsFrom B W (W.setCell ⟨b, i, none⟩ v) :=
 ⟨by simp [World.setCell], fun k o _ hk1 hc => (set_far (p := ⟨b, i, none⟩) v (fun e => by subst e; rw [hk] at hk1; cases hk1; cases hc)).trans hk1⟩
theorem GB.set3 (h : GB r2 r3 r4 g n p w z2 e3 e4 gc gr x y l k cur W0 W) (ho : Ord w r2 r3 r4 g n p) (v : Int) : GB r2 r3 r4 g n p w z2 v e4 gc gr x y l k cur W0 (W.setCell ⟨r3, 0, none⟩ (.int .i64 v)) := by
 obtain ⟨a1, a2, a3, a4, a5, a6⟩ := ho
 have f : ∀ {q : Nat} {o : Obj}, q ≠ r3 → W.heap[q]? = some o → (W.setCell ⟨r3, 0, none⟩ (.int .i64 v)).heap[q]? = some o := fun hq hk => (set_far (p := ⟨r3, 0, none⟩) _ hq).trans hk
 exact ⟨f (by omega) h.k2, set_blk (i := 0) h.k3 _, f (by omega) h.k4, f (by omega) h.kg, f (by omega) h.kn, f (by omega) h.kp, own_setfar h.row (by show r3 < p + 1; omega), h.bel.setCell (p := ⟨r3, 0, none⟩) (by show r2 ≤ r3; omega) _, h.kf.trans (kf_set _ h.k3), by simp; exact h.sz⟩
theorem GB.set4 (h : GB r2 r3 r4 g n p w z2 e3 e4 gc gr x y l k cur W0 W) (ho : Ord w r2 r3 r4 g n p) (v : Int) : GB r2 r3 r4 g n p w z2 e3 v gc gr x y l k cur W0 (W.setCell ⟨r4, 0, none⟩ (.int .i64 v)) := by
 obtain ⟨a1, a2, a3, a4, a5, a6⟩ := ho
 have f : ∀ {q : Nat} {o : Obj}, q ≠ r4 → W.heap[q]? = some o → (W.setCell ⟨r4, 0, none⟩ (.int .i64 v)).heap[q]? = some o := fun hq hk => (set_far (p := ⟨r4, 0, none⟩) _ hq).trans hk
 exact ⟨f (by omega) h.k2, f (by omega) h.k3, set_blk (i := 0) h.k4 _, f (by omega) h.kg, f (by omega) h.kn, f (by omega) h.kp, own_setfar h.row (by show r4 < p + 1; omega), h.bel.setCell (p := ⟨r4, 0, none⟩) (by show r2 ≤ r4; omega) _, h.kf.trans (kf_set _ h.k4), by simp; exact h.sz⟩
theorem GB.setc (h : GB r2 r3 r4 g n p w z2 e3 e4 gc gr x y l k cur W0 W) (ho : Ord w r2 r3 r4 g n p) (v : Int) : GB r2 r3 r4 g n p w z2 e3 e4 v gr x y l k cur W0 (W.setCell ⟨g, 0, none⟩ (.int .i64 v)) := by
 obtain ⟨a1, a2, a3, a4, a5, a6⟩ := ho
 have f : ∀ {q : Nat} {o : Obj}, q ≠ g → W.heap[q]? = some o → (W.setCell ⟨g, 0, none⟩ (.int .i64 v)).heap[q]? = some o := fun hq hk => (set_far (p := ⟨g, 0, none⟩) _ hq).trans hk
 exact ⟨f (by omega) h.k2, f (by omega) h.k3, f (by omega) h.k4, set_blk (i := 0) h.kg _, f (by omega) h.kn, f (by omega) h.kp, own_setfar h.row (by show g < p + 1; omega), h.bel.setCell (p := ⟨g, 0, none⟩) (by show r2 ≤ g; omega) _, h.kf.trans (kf_set _ h.kg), by simp; exact h.sz⟩
theorem GB.setr (h : GB r2 r3 r4 g n p w z2 e3 e4 gc gr x y l k cur W0 W) (ho : Ord w r2 r3 r4 g n p) (v : Int) : GB r2 r3 r4 g n p w z2 e3 e4 gc v x y l k cur W0 (W.setCell ⟨g, 1, none⟩ (.int .i64 v)) := by
 obtain ⟨a1, a2, a3, a4, a5, a6⟩ := ho
 have f : ∀ {q : Nat} {o : Obj}, q ≠ g → W.heap[q]? = some o → (W.setCell ⟨g, 1, none⟩ (.int .i64 v)).heap[q]? = some o := fun hq hk => (set_far (p := ⟨g, 1, none⟩) _ hq).trans hk
 exact ⟨f (by omega) h.k2, f (by omega) h.k3, f (by omega) h.k4, set_blk (i := 1) h.kg _, f (by omega) h.kn, f (by omega) h.kp, own_setfar h.row (by show g < p + 1; omega), h.bel.setCell (p := ⟨g, 1, none⟩) (by show r2 ≤ g; omega) _, h.kf.trans (kf_set _ h.kg), by simp; exact h.sz⟩
theorem GB.setx (h : GB r2 r3 r4 g n p w z2 e3 e4 gc gr x y l k cur W0 W) (ho : Ord w r2 r3 r4 g n p) (v : Value) : GB r2 r3 r4 g n p w z2 e3 e4 gc gr v y l k cur W0 (W.setCell ⟨g, 2, none⟩ v) := by
 obtain ⟨a1, a2, a3, a4, a5, a6⟩ := ho
 have f : ∀ {q : Nat} {o : Obj}, q ≠ g → W.heap[q]? = some o → (W.setCell ⟨g, 2, none⟩ v).heap[q]? = some o := fun hq hk => (set_far (p := ⟨g, 2, none⟩) _ hq).trans hk
 exact ⟨f (by omega) h.k2, f (by omega) h.k3, f (by omega) h.k4, set_blk (i := 2) h.kg _, f (by omega) h.kn, f (by omega) h.kp, own_setfar h.row (by show g < p + 1; omega), h.bel.setCell (p := ⟨g, 2, none⟩) (by show r2 ≤ g; omega) _, h.kf.trans (kf_set _ h.kg), by simp; exact h.sz⟩
theorem GB.setn (h : GB r2 r3 r4 g n p w z2 e3 e4 gc gr x y l k cur W0 W) (ho : Ord w r2 r3 r4 g n p) (v : Int) : GB r2 r3 r4 g n p w z2 e3 e4 gc gr x y l v cur W0 (W.setCell ⟨n, 0, none⟩ (.int .i64 v)) := by
 obtain ⟨a1, a2, a3, a4, a5, a6⟩ := ho
 have f : ∀ {q : Nat} {o : Obj}, q ≠ n → W.heap[q]? = some o → (W.setCell ⟨n, 0, none⟩ (.int .i64 v)).heap[q]? = some o := fun hq hk => (set_far (p := ⟨n, 0, none⟩) _ hq).trans hk
 exact ⟨f (by omega) h.k2, f (by omega) h.k3, f (by omega) h.k4, f (by omega) h.kg, set_blk (i := 0) h.kn _, f (by omega) h.kp, own_setfar h.row (by show n < p + 1; omega), h.bel.setCell (p := ⟨n, 0, none⟩) (by show r2 ≤ n; omega) _, h.kf.trans (kf_set _ h.kn), by simp; exact h.sz⟩
theorem GB.setp (h : GB r2 r3 r4 g n p w z2 e3 e4 gc gr x y l k cur W0 W) (ho : Ord w r2 r3 r4 g n p) (c : List UInt8) : GB r2 r3 r4 g n p w z2 e3 e4 gc gr x y l k c W0 (W.setCell ⟨p, 0, none⟩ (.string (Tx.bs c))) := by
 obtain ⟨a1, a2, a3, a4, a5, a6⟩ := ho
 have f : ∀ {q : Nat} {o : Obj}, q ≠ p → W.heap[q]? = some o → (W.setCell ⟨p, 0, none⟩ (.string (Tx.bs c))).heap[q]? = some o := fun hq hk => (set_far (p := ⟨p, 0, none⟩) _ hq).trans hk
 exact ⟨f (by omega) h.k2, f (by omega) h.k3, f (by omega) h.k4, f (by omega) h.kg, f (by omega) h.kn, set_blk (i := 0) h.kp _, own_setfar h.row (by show p < p + 1; omega), h.bel.setCell (p := ⟨p, 0, none⟩) (by show r2 ≤ p; omega) _, h.kf.trans (kf_set _ h.kp), by simp; exact h.sz⟩
/-- a store of the whole first result -/
theorem GB.set2 (h : GB r2 r3 r4 g n p w z2 e3 e4 gc gr x y l k cur W0 W) (ho : Ord w r2 r3 r4 g n p) {z : Array Value} (hz : W'.heap[r2]? = some (.cells z 35 (0, 0))) (hg : W.grownBy W' (some r2)) : GB r2 r3 r4 g n p w z e3 e4 gc gr x y l k cur W0 W' := by
 obtain ⟨a1, a2, a3, a4, a5, a6⟩ := ho
 have f : ∀ {q : Nat} {o : Obj}, q ≠ r2 → W.heap[q]? = some o → W'.heap[q]? = some o := fun hq hk => (hg.block _ (Array.getElem?_eq_some_iff.1 hk).1 (fun e => hq (Option.some.inj e))).trans hk
 refine ⟨hz, f (by omega) h.k3, f (by omega) h.k4, f (by omega) h.kg, f (by omega) h.kn, f (by omega) h.kp, ?_, h.bel.grown hg (by have := h.sz; omega) (fun j hj => by cases hj; exact Nat.le_refl _), h.kf.trans ⟨hg.size, fun q o hq hk _ => f (by omega) hk⟩, Nat.le_trans h.sz hg.size⟩
 exact h.row.kept hg (by omega)
/-- an append to the row -/
theorem GB.app (h : GB r2 r3 r4 g n p w z2 e3 e4 gc gr x y l k cur W0 W) (ho : Ord w r2 r3 r4 g n p) {y' : Value} {l' : List Int} (hown : Own W' (p + 1) y' l'.length (encI l')) (hg : W.grownBy W' y.ownBlock) : GB r2 r3 r4 g n p w z2 e3 e4 gc gr x y' l' k cur W0 W' := by
 obtain ⟨a1, a2, a3, a4, a5, a6⟩ := ho
 have hbn : ∀ b, b < p + 1 → some b ≠ y.ownBlock := fun b hlt e => by have := own_base h.row b e.symm; omega
 have f : ∀ {q : Nat} {o : Obj}, q < p + 1 → W.heap[q]? = some o → W'.heap[q]? = some o := fun hq hk => (hg.block _ (Array.getElem?_eq_some_iff.1 hk).1 (hbn _ hq)).trans hk
 refine ⟨f (by omega) h.k2, f (by omega) h.k3, f (by omega) h.k4, f (by omega) h.kg, f (by omega) h.kn, f (by omega) h.kp, hown, h.bel.grown hg (by have := h.sz; omega) (fun j hj => by have := own_base h.row j hj; omega), h.kf.trans ⟨hg.size, fun q o hq hk hc => ?_⟩, Nat.le_trans h.sz hg.size⟩
 refine (hg.block _ (Array.getElem?_eq_some_iff.1 hk).1 (fun e => ?_)).trans hk
 rcases h.row.2 with ⟨rfl, _⟩ | ⟨b, cap, cs, rfl, hb, hgg, _⟩
 ·cases e
 ·have : q = b := by simpa [Value.ownBlock] using e
  subst this
  rw [hk] at hgg
  cases hgg
  simp [Obj.isCells] at hc
theorem GB.here (h : GB r2 r3 r4 g n p w z2 e3 e4 gc gr x y l k cur W0 W) : GB r2 r3 r4 g n p w z2 e3 e4 gc gr x y l k cur W W :=
 ⟨h.k2, h.k3, h.k4, h.kg, h.kn, h.kp, h.row, h.bel, KeepsFrom.refl _ _, h.sz⟩
theorem cells_keep {B : Nat} {row : Option Nat} {q : Nat} {cs : Array Value} {t : TypeId} {f : Nat × Nat} (hk : W.heap[q]? = some (.cells cs t f)) (hg : W.grownBy W' row) (hr : ∀ r, row = some r → B ≤ r ∧ ∃ o : Obj, W.heap[r]? = some o ∧ o.isCells = false) : W'.heap[q]? = some (.cells cs t f) := by
 refine (hg.block q (Array.getElem?_eq_some_iff.1 hk).1 (fun e => ?_)).trans hk
 obtain ⟨_, o, ho, hc⟩ := hr q e.symm
 rw [hk] at ho
 cases ho
 cases hc
theorem own_keepR {B B1 : Nat} {row : Option Nat} {e : TypeId} {size m : Nat} {v : Value} {xs : List Value} (h : W.ownsRow B1 e size v m xs) (hg : W.grownBy W' row) (hr : ∀ r, row = some r → B ≤ r ∧ ∃ o : Obj, W.heap[r]? = some o ∧ o.isCells = false) : W'.ownsRow B1 e size v m xs := by
 rcases h.2 with ⟨rfl, _⟩ | ⟨g, cap, cur, rfl, hb, hgg, _⟩
 ·exact h.kept hg (.inl rfl)
 ·refine h.kept hg (.inr (fun e => ?_))
  obtain ⟨_, o, ho, hc⟩ := hr g e.symm
  rw [hgg] at ho
  cases ho
  simp [Obj.isCells] at hc
theorem GB.own (ho : Ord w r2 r3 r4 g n p) : OwnFrom (p + 1) (fun (_ : Unit) W => GB r2 r3 r4 g n p w z2 e3 e4 gc gr x y l k cur W W) := fun _ W W' row h hg hr => by
 obtain ⟨a1, a2, a3, a4, a5, a6⟩ := ho
 exact ⟨cells_keep h.k2 hg hr, cells_keep h.k3 hg hr, cells_keep h.k4 hg hr, cells_keep h.kg hg hr, cells_keep h.kn hg hr, cells_keep h.kp hg hr, own_keepR h.row hg hr, h.bel.grown hg (by have := h.sz; omega) (fun j hj => by have := (hr j hj).1; omega), KeepsFrom.refl _ _, Nat.le_trans h.sz hg.size⟩
end
def z35 : Array Value := #[.int .i64 0, .int .i64 0, .slice none 0 0]
/-- between two lines -/
def PI (T : List UInt8) (w : World) (r2 r3 r4 g n p : Nat) (rest cur : List UInt8) (W : World) : Prop :=
 ∃ (st : Tx.Gd) (k cn : Nat) (x : Value), Tx.prs Tx.zG 0 (Tx.split 10 T) = Tx.prs st k (Tx.split 10 rest) ∧ (k = 0 → rest = T) ∧ st.c = (cn : Int) ∧ cn ≤ 1000000000 ∧ k + rest.length ≤ T.length ∧ st.l.length + rest.length ≤ T.length ∧ GB r2 r3 r4 g n p w z35 0 0 st.c st.r x x st.l k cur W W
theorem PI.own {T : List UInt8} {w : World} {r2 r3 r4 g n p : Nat} (ho : Ord w r2 r3 r4 g n p) (rest cur : List UInt8) : OwnFrom (p + 1) (fun (_ : Unit) W => PI T w r2 r3 r4 g n p rest cur W) := fun u W W' row hs hg hr => by
 obtain ⟨st, k, cn, x, h1, h2, h3, h4, h5, h6, h7⟩ := hs
 exact ⟨st, k, cn, x, h1, h2, h3, h4, h5, h6, GB.own ho u W W' row h7 hg hr⟩
/-- a line was wrong: the results lie -/
def PX (T : List UInt8) (w : World) (r2 r3 r4 : Nat) (W : World) : Prop :=
 ∃ i : Int, Tx.prs Tx.zG 0 (Tx.split 10 T) = (Tx.zG, i, 25) ∧ W.heap[r2]? = some (.cells z35 35 (0, 0)) ∧ W.heap[r3]? = some (.cells #[.int .i64 i] 3 (0, 0)) ∧ W.heap[r4]? = some (.cells #[.int .i64 25] 32 (0, 0)) ∧ Below r2 w W
theorem PX.own {T : List UInt8} {w : World} {r2 r3 r4 g n p : Nat} (ho : Ord w r2 r3 r4 g n p) : OwnFrom (p + 1) (fun (_ : Unit) W => PX T w r2 r3 r4 W) := fun _ W W' row hs hg hr => by
 obtain ⟨i, h1, h2, h3, h4, h5⟩ := hs
 obtain ⟨a1, a2, a3, a4, a5, a6⟩ := ho
 exact ⟨i, h1, cells_keep h2 hg hr, cells_keep h3 hg hr, cells_keep h4 hg hr, h5.grown hg (by have := (Array.getElem?_eq_some_iff.1 h2).1; omega) (fun j hj => by have := (hr j hj).1; omega)⟩
end Go.Proofs.YtdimmlljjmmdbaaGreatDoor
