/- A part of the proofs about chapter 9: contracts of functions and plain laws (W59, ShelfA, W60, Model23). -/
import Derived.Shelf.Strings.Builder1
import Derived.Shelf.Strings.Builder2
import Derived.Shelf.Strings.OnBuilder
import Derived.Shelf.Small.Strs
import Derived.Shelf.Small.Wraps
import Derived.Shelf.Strings.BuilderF
import Derived.Shelf.Strings.BuilderK
import Derived.Shelf.Utf8.RuneCount
import Derived.Shelf.Strings.Builder2Cap
import Derived.Shelf.Strconv.Itoa0
import Derived.Shelf.Strconv.Itoa1
import Derived.Shelf.LaysM
import Derived.Shelf.Strconv.Itoa2
import Derived.Shelf.Strconv.Itoa3
import Derived.Shelf.Strings.Search1
import Derived.Shelf.Strings.Search2
import Derived.Shelf.Strings.Search3
import Derived.Shelf.Strings.Count
import Derived.Shelf.Strings.Shaped
import Derived.Shelf.Strings.Prefix
import Derived.Shelf.Strings.Split
import Derived.Shelf.Strings.SplitShaped
import Derived.Shelf.Unicode.Decode
import Derived.Shelf.Strings.RuneCount
import Derived.Shelf.Strings.Explode
import Derived.Shelf.Unicode.DecodeSlow
import Derived.Shelf.Unicode.DecodeAny
import Derived.Shelf.Strings.BuilderCap
import Derived.Test.YtndhjkammoeikaaGreatDoorProg
import Derived.Test.YtndhjkammoeikaaGreatDoorA13
set_option linter.all false
namespace Go.Proofs.YtndhjkammoeikaaGreatDoor
open Go.RowKit Go.Shelf
set_option maxHeartbeats 2000000
set_option maxRecDepth 100000
attribute [local go_sem] Oper.semAt_some

theorem blk_keep {A B : World} {row : Option Nat} {b B0 : Nat} {cs : Array Value} {t : TypeId} {f : Nat × Nat} (h : A.heap[b]? = some (.cells cs t f)) (hg : A.grownBy B row) (hr : ∀ r, row = some r → B0 ≤ r ∧ ∃ o : Obj, A.heap[r]? = some o ∧ o.isCells = false) : B.heap[b]? = some (.cells cs t f) := by
  refine (hg.block b (Array.getElem?_eq_some_iff.1 h).1 (fun e => ?_)).trans h
  obtain ⟨_, o, ho, hc⟩ := hr b e.symm
  rw [h] at ho
  cases ho
  cases hc
theorem binv_nil (c : Con) (hc : Mo.COk c) : (Mo.binv c []).arr = (Inv.mk (fun _ => 0) 0 0).arr := by
  have hf := hc.free
  have hb : ∀ i, Mo.bh c [] i = 0 := fun i => by
    unfold Mo.bh Mo.cnt
    split
    · simp; omega
    · rfl
  unfold Mo.binv
  simp [hb, Inv.arr]
theorem bfree_nil (c : Con) (hc : Mo.COk c) : Mo.bfree c [] = c.free := by
  have hf := hc.free
  unfold Mo.bfree Mo.cnt
  simp; omega
theorem binv_step (c : Con) (pre : List (Int × Fin 6)) (t : Int) (k : Nat) (hk : k < 6) (h : k = 2 → Mo.bfree c pre ≤ 0) (hc : Mo.COk c) :
    (Mo.binv c pre).arr.setIfInBounds k (.int .i64 (Mo.bh c pre k * c.r k + c.r k)) = (Mo.binv c (pre ++ [(t, ⟨k, hk⟩)])).arr := by
  rw [Inv.setc _ k hk]
  refine congrArg (fun f => (Inv.mk f 0 0).arr) ?_
  funext i
  have hf := hc.free
  have hb := Mo.cnt_bd pre 2
  show (if i = k then Mo.bh c pre k * c.r k + c.r k else Mo.bh c pre i * c.r i) = Mo.bh c (pre ++ [(t, ⟨k, hk⟩)]) i * c.r i
  by_cases hi : i = k
  · subst hi
    rw [if_pos rfl]
    have e : Mo.bh c (pre ++ [(t, ⟨i, hk⟩)]) i = Mo.bh c pre i + 1 := by
      unfold Mo.bh
      by_cases h2 : i = 2
      · subst h2
        have := h rfl
        unfold Mo.bfree at this
        rw [if_pos rfl, if_pos rfl, Mo.cnt_snoc, if_pos rfl]
        omega
      · rw [if_neg h2, if_neg h2, Mo.cnt_snoc, if_pos rfl]
    rw [e, Int.add_mul, Int.one_mul]
  · rw [if_neg hi]
    have e : Mo.bh c (pre ++ [(t, ⟨k, hk⟩)]) i = Mo.bh c pre i := by
      unfold Mo.bh
      by_cases h2 : i = 2
      · subst h2
        rw [if_pos rfl, if_pos rfl, Mo.cnt_snoc, if_neg (by show ¬ k = 2; omega), Int.add_zero]
      · rw [if_neg h2, if_neg h2, Mo.cnt_snoc, if_neg (by show ¬ k = i; omega), Int.add_zero]
    rw [e]
theorem bfree_other (c : Con) (pre : List (Int × Fin 6)) (t : Int) (k : Nat) (hk : k < 6) (h : k = 2 → Mo.bfree c pre ≤ 0) : Mo.bfree c (pre ++ [(t, ⟨k, hk⟩)]) = Mo.bfree c pre := by
  unfold Mo.bfree at h ⊢
  rw [Mo.cnt_snoc]
  by_cases h2 : k = 2
  · have := h h2; rw [if_pos h2]; omega
  · rw [if_neg h2, Int.add_zero]
theorem binv_free (c : Con) (pre : List (Int × Fin 6)) (t : Int) (h : 0 < Mo.bfree c pre) : (Mo.binv c (pre ++ [(t, ⟨2, by decide⟩)])).arr = (Mo.binv c pre).arr ∧ Mo.bfree c (pre ++ [(t, ⟨2, by decide⟩)]) = Mo.bfree c pre - 1 := by
  unfold Mo.bfree at h
  have hb := Mo.cnt_bd pre 2
  constructor
  · refine congrArg (fun f => (Inv.mk f 0 0).arr) ?_
    funext i
    have e : Mo.bh c (pre ++ [(t, ⟨2, by decide⟩)]) i = Mo.bh c pre i := by
      unfold Mo.bh
      by_cases h2 : i = 2
      · subst h2
        rw [if_pos rfl, if_pos rfl, Mo.cnt_snoc, if_pos rfl]
        omega
      · rw [if_neg h2, if_neg h2, Mo.cnt_snoc, if_neg (by show ¬ 2 = i; omega), Int.add_zero]
    show Mo.bh c _ i * c.r i = Mo.bh c pre i * c.r i
    rw [e]
  · unfold Mo.bfree
    rw [Mo.cnt_snoc, if_pos rfl]
    omega
theorem bh_bd (c : Con) (hc : Mo.COk c) (pre : List (Int × Fin 6)) (hl : pre.length ≤ 6400000) (k : Nat) (hk : k < 6) : -64000000000 ≤ Mo.bh c pre k * c.r k ∧ Mo.bh c pre k * c.r k ≤ 64000000000 := by
  have h1 := Mo.cnt_bd pre k
  have h2 := Mo.cnt_bd pre 2
  have hf := hc.free
  have hb : 0 ≤ Mo.bh c pre k ∧ Mo.bh c pre k ≤ 6400000 := by
    unfold Mo.bh
    split <;> omega
  have := Mo.mul_bd (a := Mo.bh c pre k) (b := c.r k) (A := 6400000) (B := 10000) ⟨by omega, hb.2⟩ (hc.r k hk)
  omega
theorem keeps_below {A B : World} (h : Below A.heap.size A B) : KeepsOthers A B := ⟨h.size, fun k o hk _ => (h.block k (Array.getElem?_eq_some_iff.1 hk).1).trans hk⟩
theorem KpX.set {p q : Nat} {A B : World} (h : KpX p q A B) (a : Addr) (v : Value) (hp : a.block = p ∨ a.block = q) : KpX p q A (B.setCell a v) := by
  refine ⟨by simp [World.setCell]; exact h.size, fun b o ho h1 h2 h3 => ?_⟩
  rw [set_far _ (by rcases hp with e | e <;> omega)]
  exact h.same b o ho h1 h2 h3
theorem c68_ok (c : Con) (A : Option Addr) (cap : Nat) (l : List Ent) (G : Option Addr) (gcap : Nat) (rs : List Res) (w : World) (hl : l.length ≤ 1000000) (hg : rs.length ≤ 1000000) (hgc : rs.length ≤ gcap) (hgc2 : gcap ≤ 9223372036854775807) (hle : ∀ e ∈ l, e.c.size ≤ 1000000) (hrs : ∀ x ∈ rs, x.n.size ≤ 1000000) (H : RdL w 3 Ent.enc A l) (HG : RdL w 3 Res.enc G rs) (hnw : ∀ b off, A = some ⟨b, off, none⟩ → b < w.heap.size) (hE : Mo.bill c l rs = 0) :
    Calls Tryz.prog 68 #[.agg #[.int .i64 (c.r 0), .int .i64 (c.r 1), .int .i64 (c.r 2), .int .i64 (c.r 3), .int .i64 (c.r 4), .int .i64 (c.r 5), .int .i64 c.free, .int .i64 c.bonus, .int .i64 c.pen], .slice A l.length cap, .slice G rs.length gcap] w fun en w' => en = .returned (.tuple #[.agg (Mo.billI c l rs).arr, .int .i64 0]) ∧ Below w.heap.size w w' := by
  obtain ⟨W, hW⟩ : ∃ W, W = (w.alloc (Obj.cells #[.int .i64 (c.r 0), .int .i64 (c.r 1), .int .i64 (c.r 2), .int .i64 (c.r 3), .int .i64 (c.r 4), .int .i64 (c.r 5), .int .i64 c.free, .int .i64 c.bonus, .int .i64 c.pen] 130)).alloc (Obj.cells #[.int .i64 0, .int .i64 0, .int .i64 0, .int .i64 0, .int .i64 0, .int .i64 0, .int .i64 0, .int .i64 0] 91) := ⟨_, rfl⟩
  have hB0 : Below w.heap.size w W := by rw [hW]; exact (((Below.refl _ _).alloc (by first | omega | (simp <;> omega)) _).alloc (by first | omega | (simp <;> omega)) _)
  have hT0 : W.heap[w.heap.size]? = some (Obj.cells #[.int .i64 (c.r 0), .int .i64 (c.r 1), .int .i64 (c.r 2), .int .i64 (c.r 3), .int .i64 (c.r 4), .int .i64 (c.r 5), .int .i64 c.free, .int .i64 c.bonus, .int .i64 c.pen] 130) := by rw [hW]; exact heap_old (by simp) (heap_new rfl)
  have hT1 : W.heap[w.heap.size + 1]? = some (Obj.cells #[.int .i64 0, .int .i64 0, .int .i64 0, .int .i64 0, .int .i64 0, .int .i64 0, .int .i64 0, .int .i64 0] 91) := by rw [hW]; exact heap_new (by simp)
  have HC := Lib.hid (c122 c A cap l G gcap rs W hl hg hgc hgc2 hle hrs (H.below hB0) (HG.below hB0))
  have z0 : w.heap.size < W.heap.size := (Array.getElem?_eq_some_iff.1 hT0).1
  have z1 : w.heap.size + 1 < W.heap.size := (Array.getElem?_eq_some_iff.1 hT1).1
  obtain ⟨hc0, he0, hr0⟩ := Mo.bill_ok hE
  have hok := Mo.con_ok hc0
  obtain ⟨ho1, ho2, _⟩ := Mo.entries_ok he0
  obtain ⟨hr1, hr2⟩ := Mo.results_ok hr0
  rw [hE] at HC
  refine (callsIn_wide (n := 8)).1 ?_
  refine callsIn_of_wp_marks Tryz.func68 rfl trivial ?_ rfl
  refine wpIn_wide.2 ?_
  simp only [Tryz.ntmps68, List.size_toArray, List.length_cons, List.length_nil, Nat.reduceAdd, Nat.reduceSub, Array.replicate_succ, Array.replicate_zero, List.push_toArray, List.append_toArray, List.nil_append, List.cons_append]
  go_wp2_with fail
  rw [← hW]
  refine HC.out.mono ?_
  rintro e w1 ⟨rfl, hb1⟩
  have hB1 := hB0.call hb1 rfl
  have t0 := (hb1.block _ z0).trans hT0
  have t1 := (hb1.block _ z1).trans hT1
  have y0 : w.heap.size < w1.heap.size := Nat.lt_of_lt_of_le z0 hb1.size
  have y1 : w.heap.size + 1 < w1.heap.size := Nat.lt_of_lt_of_le z1 hb1.size
  have hb2 : Below w1.heap.size w1 (w1.alloc (Obj.cells #[.int .i64 0, .int .i64 0, .int .i64 0, .int .i64 0, .int .i64 0, .int .i64 0, .int .i64 0, .int .i64 0] 91)) := (Below.refl _ _).alloc (Nat.le_refl _) _
  have hB2 := hB1.call hb2 rfl
  have t0 := (hb2.block _ y0).trans t0
  have t1 := (hb2.block _ y1).trans t1
  have t9 : (w1.alloc (Obj.cells #[.int .i64 0, .int .i64 0, .int .i64 0, .int .i64 0, .int .i64 0, .int .i64 0, .int .i64 0, .int .i64 0] 91)).heap[w1.heap.size]? = some (Obj.cells #[.int .i64 0, .int .i64 0, .int .i64 0, .int .i64 0, .int .i64 0, .int .i64 0, .int .i64 0, .int .i64 0] 91) := heap_new rfl
  clear hb1 hT0 hT1 z0 z1 hB0 HC hW
  go_wp2_with fail
  refine (c123 _).mono ?_
  rintro e w2 ⟨rfl, hb3⟩
  have hB3 := hB2.call hb3 rfl
  have x9 : w1.heap.size < w2.heap.size := by have := hb3.size; simp at this; omega
  have t0 := (hb3.block _ (by simp; omega)).trans t0
  have t1 := (hb3.block _ (by simp; omega)).trans t1
  have t9 := (hb3.block _ (by simp)).trans t9
  have hb4 : Below w2.heap.size w2 (w2.alloc (Obj.cells #[.string ⟨#[]⟩, .nilFunc, .string ⟨#[]⟩, .nilFunc, .string ⟨#[]⟩, .nilFunc, .string ⟨#[]⟩, .nilFunc, .string ⟨#[]⟩, .nilFunc, .string ⟨#[]⟩, .nilFunc] 207)) := (Below.refl _ _).alloc (Nat.le_refl _) _
  have hB4 := hB3.call hb4 rfl
  have t0 := (hb4.block _ (by omega)).trans t0
  have t1 := (hb4.block _ (by omega)).trans t1
  have t9 := (hb4.block _ x9).trans t9
  clear hb3 hb4 hB3 hB2 hb2
  unfold ratesV
  go_wp2_with (refine wpList_store_blk rfl 207 _ _ rfl w2.heap.size _ rfl rfl (heap_new rfl) ?s1 ?s2 ?s3 ?_)
  case s1 => rfl
  case s2 => kernel_rfl
  case s3 => simp [Value.oneCell']
  intro w3 h3 hg3 hs3
  have hB5 : Below w.heap.size w w3 := hB4.grown hg3 hB4.size (fun j hj => by cases hj; omega)
  have hgb : ∀ b, b < w2.heap.size → ∀ o, w2.heap[b]? = some o → w3.heap[b]? = some o := fun b hb o ho => (hg3.block b (by simp; omega) (by simp; omega)).trans (heap_old hb ho)
  have x2 : w2.heap.size < w3.heap.size := by rw [hs3]; simp
  have t0 : w3.heap[w.heap.size]? = some (Obj.cells #[.int .i64 (c.r 0), .int .i64 (c.r 1), .int .i64 (c.r 2), .int .i64 (c.r 3), .int .i64 (c.r 4), .int .i64 (c.r 5), .int .i64 c.free, .int .i64 c.bonus, .int .i64 c.pen] 130) := (hg3.block _ (by simp; omega) (by simp; omega)).trans t0
  have t1 : w3.heap[w.heap.size + 1]? = some (Obj.cells #[.int .i64 0, .int .i64 0, .int .i64 0, .int .i64 0, .int .i64 0, .int .i64 0, .int .i64 0, .int .i64 0] 91) := (hg3.block _ (by simp; omega) (by simp; omega)).trans t1
  have t9 : w3.heap[w1.heap.size]? = some (Obj.cells #[.int .i64 0, .int .i64 0, .int .i64 0, .int .i64 0, .int .i64 0, .int .i64 0, .int .i64 0, .int .i64 0] 91) := (hg3.block _ (by simp; omega) (by simp; omega)).trans t9
  have b6 : w3.cell? ⟨w.heap.size, 6, none⟩ = some (.int .i64 c.free) := cell_at t0 rfl
  have hb6 : Below w3.heap.size w3 (w3.alloc (Obj.cells #[.int .i64 c.free] 3)) := (Below.refl _ _).alloc (Nat.le_refl _) _
  have u0 := (hb6.block _ (by omega)).trans t0
  have u1 := (hb6.block _ (by omega)).trans t1
  have u9 := (hb6.block _ (by omega)).trans t9
  have u10 := (hb6.block _ x2).trans h3
  have u11 : (w3.alloc (Obj.cells #[.int .i64 c.free] 3)).heap[w3.heap.size]? = some (Obj.cells #[.int .i64 c.free] 3) := heap_new rfl
  have hB6 := hB5.call hb6 rfl
  clear hs3
  clear hb6 t0 t1 t9 hgb hg3 h3 hB4 hB5
  go_wp2_with fail
  refine (c125 A l.length cap _).mono ?_
  rintro e w5 ⟨pb, pm, bm, rfl, hpb, hpm, hN, gpb, gpm, gbm, hb7⟩
  have hB7 := hB6.call hb7 rfl
  have x3 : w3.heap.size < w5.heap.size := by have := hb7.size; simp at this; omega
  have v0 := (hb7.block _ (by simp; omega)).trans u0
  have v1 := (hb7.block _ (by simp; omega)).trans u1
  have v9 := (hb7.block _ (by simp; omega)).trans u9
  have v10 := (hb7.block _ (by simp; omega)).trans u10
  have v11 := (hb7.block _ (by simp)).trans u11
  simp at gpb gpm gbm
  clear b6 u0 u1 u9 u10 u11 hb7 hB6
  go_wp2_with fail
  have HS := ticks_stops 5 (by omega) pb pm bm w1.heap.size w3.heap.size A cap l w5 ho1 ho2 (fun b off hAe => by have := hnw b off hAe; omega) ⟨by omega, by omega⟩ ⟨by omega, by omega⟩ ⟨by omega, by omega⟩ (by omega) x3 hpb hpm hN (H.below hB7)
  refine (wpIn_wide (n := 6)).1 ?_
  apply wpIn_rangeFunc_ownF (F := Fence.wide) (n := 6) rfl (by omega) (gf := 161) rfl trivial (enters_of Tryz.func161 (by kernel_rfl) rfl) HS KpX.trans (fun W l o o' _ hx h1 h2 => KpX.put W l o o' hx h1 h2) (Below.refl _ _) (fun _ => rfl)
    (fun pre W => (W.heap[w.heap.size]? = some (Obj.cells #[.int .i64 (c.r 0), .int .i64 (c.r 1), .int .i64 (c.r 2), .int .i64 (c.r 3), .int .i64 (c.r 4), .int .i64 (c.r 5), .int .i64 c.free, .int .i64 c.bonus, .int .i64 c.pen] 130) ∧ W.heap[w.heap.size + 1]? = some (Obj.cells #[.int .i64 0, .int .i64 0, .int .i64 0, .int .i64 0, .int .i64 0, .int .i64 0, .int .i64 0, .int .i64 0] 91) ∧ W.heap[w1.heap.size]? = some (Obj.cells (Mo.binv c pre).arr 91) ∧ W.heap[w2.heap.size]? = some (Obj.cells #[.string Mo.shoot, .func (.func 155) #[] #[], .string Mo.turn, .func (.func 156) #[] #[], .string Mo.weather, .func (.func 157) #[] #[], .string Mo.animal, .func (.func 158) #[] #[], .string Mo.gear, .func (.func 159) #[] #[], .string Mo.share, .func (.func 160) #[] #[]] 207) ∧ W.heap[w3.heap.size]? = some (Obj.cells #[.int .i64 (Mo.bfree c pre)] 3)) ∧ Below w.heap.size w W)
    (fun _ _ _ => False)
    (OwnFrom.and (fun s A B row hs hg hr => ⟨blk_keep hs.1 hg hr, blk_keep hs.2.1 hg hr, blk_keep hs.2.2.1 hg hr, blk_keep hs.2.2.2.1 hg hr, blk_keep hs.2.2.2.2 hg hr⟩) (ownFrom_below (Nat.le_refl _) (by omega)))
    (fun _ _ _ _ _ hs _ _ => hs)
    ⟨⟨v0, v1, by rw [binv_nil c hok]; exact v9, v10, by rw [bfree_nil c hok]; exact v11⟩, hB7⟩
  case hassign =>
    intro l x W K hK
    gi_wp2
    exact hK
  case hbody =>
    rintro lr pre ⟨tt, ⟨i, hi⟩⟩ W ⟨⟨h0, h1, h9, h10, h11⟩, hB⟩ hpl
    have hpb := Mo.ticksL_bd l ho2 ho1
    have n0 : w.heap.size < W.heap.size := (Array.getElem?_eq_some_iff.1 h0).1
    have n1 : w.heap.size + 1 < W.heap.size := (Array.getElem?_eq_some_iff.1 h1).1
    have n9 : w1.heap.size < W.heap.size := (Array.getElem?_eq_some_iff.1 h9).1
    have n10 : w2.heap.size < W.heap.size := (Array.getElem?_eq_some_iff.1 h10).1
    have n11 : w3.heap.size < W.heap.size := (Array.getElem?_eq_some_iff.1 h11).1
    have b0 : W.cell? ⟨w.heap.size, 0, none⟩ = some (.int .i64 (c.r 0)) := cell_at h0 rfl
    have b1 : W.cell? ⟨w.heap.size, 1, none⟩ = some (.int .i64 (c.r 1)) := cell_at h0 rfl
    have b2 : W.cell? ⟨w.heap.size, 2, none⟩ = some (.int .i64 (c.r 2)) := cell_at h0 rfl
    have b3 : W.cell? ⟨w.heap.size, 3, none⟩ = some (.int .i64 (c.r 3)) := cell_at h0 rfl
    have b4 : W.cell? ⟨w.heap.size, 4, none⟩ = some (.int .i64 (c.r 4)) := cell_at h0 rfl
    have b5 : W.cell? ⟨w.heap.size, 5, none⟩ = some (.int .i64 (c.r 5)) := cell_at h0 rfl
    have b6 : W.cell? ⟨w.heap.size, 6, none⟩ = some (.int .i64 c.free) := cell_at h0 rfl
    have b7 : W.cell? ⟨w.heap.size, 7, none⟩ = some (.int .i64 c.bonus) := cell_at h0 rfl
    have b8 : W.cell? ⟨w.heap.size, 8, none⟩ = some (.int .i64 c.pen) := cell_at h0 rfl
    have r0 : W.cell? ⟨w2.heap.size, 0, none⟩ = some (.string Mo.shoot) := cell_at h10 rfl
    have r1 : W.cell? ⟨w2.heap.size, 1, none⟩ = some (.func (.func 155) #[] #[]) := cell_at h10 rfl
    have r2 : W.cell? ⟨w2.heap.size, 2, none⟩ = some (.string Mo.turn) := cell_at h10 rfl
    have r3 : W.cell? ⟨w2.heap.size, 3, none⟩ = some (.func (.func 156) #[] #[]) := cell_at h10 rfl
    have r4 : W.cell? ⟨w2.heap.size, 4, none⟩ = some (.string Mo.weather) := cell_at h10 rfl
    have r5 : W.cell? ⟨w2.heap.size, 5, none⟩ = some (.func (.func 157) #[] #[]) := cell_at h10 rfl
    have r6 : W.cell? ⟨w2.heap.size, 6, none⟩ = some (.string Mo.animal) := cell_at h10 rfl
    have r7 : W.cell? ⟨w2.heap.size, 7, none⟩ = some (.func (.func 158) #[] #[]) := cell_at h10 rfl
    have r8 : W.cell? ⟨w2.heap.size, 8, none⟩ = some (.string Mo.gear) := cell_at h10 rfl
    have r9 : W.cell? ⟨w2.heap.size, 9, none⟩ = some (.func (.func 159) #[] #[]) := cell_at h10 rfl
    have r10 : W.cell? ⟨w2.heap.size, 10, none⟩ = some (.string Mo.share) := cell_at h10 rfl
    have r11 : W.cell? ⟨w2.heap.size, 11, none⟩ = some (.func (.func 160) #[] #[]) := cell_at h10 rfl
    have pfree : W.cell? ⟨w3.heap.size, 0, none⟩ = some (.int .i64 (Mo.bfree c pre)) := cell_at h11 rfl
    have ffree : W.frozen? ⟨w3.heap.size, 0, none⟩ = false := free_at h11
    have hfb : 0 ≤ Mo.bfree c pre ∧ Mo.bfree c pre ≤ 100000 := by have := hok.free; have := Mo.cnt_bd pre 2; unfold Mo.bfree; omega
    have H0 := Lib.hid h0
    have H1 := Lib.hid h1
    have H9 := Lib.hid h9
    have H10 := Lib.hid h10
    have H11 := Lib.hid h11
    have hl1 : 1 ≤ 6 - 1 - 1 := by omega
    have cs0 : ¬ (Mo.shoot.toList = [119, 101, 97, 116, 104, 101, 114]) := by rw [ByteArray.toList_eq]; decide
    have cs1 : ¬ (Mo.turn.toList = [119, 101, 97, 116, 104, 101, 114]) := by rw [ByteArray.toList_eq]; decide
    have cs2 : (Mo.weather.toList = [119, 101, 97, 116, 104, 101, 114]) := by rw [ByteArray.toList_eq]; decide
    have cs3 : ¬ (Mo.animal.toList = [119, 101, 97, 116, 104, 101, 114]) := by rw [ByteArray.toList_eq]; decide
    have cs4 : ¬ (Mo.gear.toList = [119, 101, 97, 116, 104, 101, 114]) := by rw [ByteArray.toList_eq]; decide
    have cs5 : ¬ (Mo.share.toList = [119, 101, 97, 116, 104, 101, 114]) := by rw [ByteArray.toList_eq]; decide
    clear h0 h1 h9 h10 h11
    rcases (show i = 0 ∨ i = 1 ∨ i = 2 ∨ i = 3 ∨ i = 4 ∨ i = 5 by omega) with rfl | rfl | rfl | rfl | rfl | rfl
    · have hst := Lib.hid (binv_step c pre tt 0 (by decide) (fun h => by cases h) hok)
      have hfo := Lib.hid (bfree_other c pre tt 0 (by decide) (fun h => by cases h))
      have hvb := bh_bd c hok pre (by omega) 0 (by decide)
      have hrb := hok.r 0 (by decide)
      obtain ⟨v, hv⟩ : ∃ v, v = Mo.bh c pre 0 * c.r 0 := ⟨_, rfl⟩
      have pc : W.cell? ⟨w1.heap.size, 0, none⟩ = some (.int .i64 v) := by rw [hv]; exact cell_at H9.out rfl
      rw [← hv] at hst hvb
      clear hv
      gi_wp2
      refine wpIn_region_splitG 13 (by kernel_rfl) (by kernel_rfl) (by kernel_rfl) ?hq0 ?hmain0
      case hq0 =>
        rintro ⟨_, _, h⟩
        first | exact h | exact h.elim
      simp only [List.take_succ_cons, List.take_zero, List.drop_succ_cons, List.drop_zero]
      repeat (go_big_quiet_step ((first | (go_at_call 155; exact Calls.gw_of (c155 c _)))))
      refine wpQuiet_nil (gw_out ?_)
      intro w7 hb7
      have k0 := (hb7.block _ n0).trans H0.out
      have k1 := (hb7.block _ n1).trans H1.out
      have k9 := (hb7.block _ n9).trans H9.out
      have k10 := (hb7.block _ n10).trans H10.out
      have k11 := (hb7.block _ n11).trans H11.out
      have kf : w7.frozen? ⟨w1.heap.size, 0, none⟩ = false := free_at k9
      have kc : w7.cell? ⟨w1.heap.size, 0, none⟩ = some (.int .i64 v) := ((bcell hb7).1 _ _ n9).trans pc
      have f0 : Hid ((w7.setCell ⟨w1.heap.size, 0, none⟩ (.int .i64 (v + c.r 0))).heap[w.heap.size]? = some (Obj.cells #[.int .i64 (c.r 0), .int .i64 (c.r 1), .int .i64 (c.r 2), .int .i64 (c.r 3), .int .i64 (c.r 4), .int .i64 (c.r 5), .int .i64 c.free, .int .i64 c.bonus, .int .i64 c.pen] 130)) := by show _ = _; rw [set_far _ (by simp; omega)]; exact k0
      have f1 : Hid ((w7.setCell ⟨w1.heap.size, 0, none⟩ (.int .i64 (v + c.r 0))).heap[w.heap.size + 1]? = some (Obj.cells #[.int .i64 0, .int .i64 0, .int .i64 0, .int .i64 0, .int .i64 0, .int .i64 0, .int .i64 0, .int .i64 0] 91)) := by show _ = _; rw [set_far _ (by simp; omega)]; exact k1
      have f9 : Hid ((w7.setCell ⟨w1.heap.size, 0, none⟩ (.int .i64 (v + c.r 0))).heap[w1.heap.size]? = some (Obj.cells (Mo.binv c (pre ++ [(tt, ⟨0, by decide⟩)])).arr 91)) := by show _ = _; rw [set_blk k9, hst.out]
      have f10 : Hid ((w7.setCell ⟨w1.heap.size, 0, none⟩ (.int .i64 (v + c.r 0))).heap[w2.heap.size]? = some (Obj.cells #[.string Mo.shoot, .func (.func 155) #[] #[], .string Mo.turn, .func (.func 156) #[] #[], .string Mo.weather, .func (.func 157) #[] #[], .string Mo.animal, .func (.func 158) #[] #[], .string Mo.gear, .func (.func 159) #[] #[], .string Mo.share, .func (.func 160) #[] #[]] 207)) := by show _ = _; rw [set_far _ (by simp; omega)]; exact k10
      have f11 : Hid ((w7.setCell ⟨w1.heap.size, 0, none⟩ (.int .i64 (v + c.r 0))).heap[w3.heap.size]? = some (Obj.cells #[.int .i64 (Mo.bfree c (pre ++ [(tt, ⟨0, by decide⟩)]))] 3)) := by show _ = _; rw [set_far _ (by simp; omega), hfo.out]; exact k11
      have hB8 := (hB.call hb7 rfl).setCell (p := ⟨w1.heap.size, 0, none⟩) (by show w.heap.size ≤ w1.heap.size; omega) (.int .i64 (v + c.r 0))
      have hKO : KeepsOthers W (w7.setCell ⟨w1.heap.size, 0, none⟩ (.int .i64 (v + c.r 0))) := (keeps_below hb7).trans (KeepsOthers.setCell _ _ _)
      have hKX : KpX w1.heap.size w3.heap.size W (w7.setCell ⟨w1.heap.size, 0, none⟩ (.int .i64 (v + c.r 0))) := KpX.set (KpX.of_below hb7) _ _ (.inl rfl)
      clear k0 k1 k9 k10 k11 hst hfo hb7
      go_wp2
      exact ⟨hKO, hKX, ⟨f0.out, f1.out, f9.out, f10.out, f11.out⟩, hB8⟩
    · have hst := Lib.hid (binv_step c pre tt 1 (by decide) (fun h => by cases h) hok)
      have hfo := Lib.hid (bfree_other c pre tt 1 (by decide) (fun h => by cases h))
      have hvb := bh_bd c hok pre (by omega) 1 (by decide)
      have hrb := hok.r 1 (by decide)
      obtain ⟨v, hv⟩ : ∃ v, v = Mo.bh c pre 1 * c.r 1 := ⟨_, rfl⟩
      have pc : W.cell? ⟨w1.heap.size, 1, none⟩ = some (.int .i64 v) := by rw [hv]; exact cell_at H9.out rfl
      rw [← hv] at hst hvb
      clear hv
      gi_wp2
      refine wpIn_region_splitG 13 (by kernel_rfl) (by kernel_rfl) (by kernel_rfl) ?hq1 ?hmain1
      case hq1 =>
        rintro ⟨_, _, h⟩
        first | exact h | exact h.elim
      simp only [List.take_succ_cons, List.take_zero, List.drop_succ_cons, List.drop_zero]
      repeat (go_big_quiet_step ((first | (go_at_call 156; exact Calls.gw_of (c156 c _)))))
      refine wpQuiet_nil (gw_out ?_)
      intro w7 hb7
      have k0 := (hb7.block _ n0).trans H0.out
      have k1 := (hb7.block _ n1).trans H1.out
      have k9 := (hb7.block _ n9).trans H9.out
      have k10 := (hb7.block _ n10).trans H10.out
      have k11 := (hb7.block _ n11).trans H11.out
      have kf : w7.frozen? ⟨w1.heap.size, 1, none⟩ = false := free_at k9
      have kc : w7.cell? ⟨w1.heap.size, 1, none⟩ = some (.int .i64 v) := ((bcell hb7).1 _ _ n9).trans pc
      have f0 : Hid ((w7.setCell ⟨w1.heap.size, 1, none⟩ (.int .i64 (v + c.r 1))).heap[w.heap.size]? = some (Obj.cells #[.int .i64 (c.r 0), .int .i64 (c.r 1), .int .i64 (c.r 2), .int .i64 (c.r 3), .int .i64 (c.r 4), .int .i64 (c.r 5), .int .i64 c.free, .int .i64 c.bonus, .int .i64 c.pen] 130)) := by show _ = _; rw [set_far _ (by simp; omega)]; exact k0
      have f1 : Hid ((w7.setCell ⟨w1.heap.size, 1, none⟩ (.int .i64 (v + c.r 1))).heap[w.heap.size + 1]? = some (Obj.cells #[.int .i64 0, .int .i64 0, .int .i64 0, .int .i64 0, .int .i64 0, .int .i64 0, .int .i64 0, .int .i64 0] 91)) := by show _ = _; rw [set_far _ (by simp; omega)]; exact k1
      have f9 : Hid ((w7.setCell ⟨w1.heap.size, 1, none⟩ (.int .i64 (v + c.r 1))).heap[w1.heap.size]? = some (Obj.cells (Mo.binv c (pre ++ [(tt, ⟨1, by decide⟩)])).arr 91)) := by show _ = _; rw [set_blk k9, hst.out]
      have f10 : Hid ((w7.setCell ⟨w1.heap.size, 1, none⟩ (.int .i64 (v + c.r 1))).heap[w2.heap.size]? = some (Obj.cells #[.string Mo.shoot, .func (.func 155) #[] #[], .string Mo.turn, .func (.func 156) #[] #[], .string Mo.weather, .func (.func 157) #[] #[], .string Mo.animal, .func (.func 158) #[] #[], .string Mo.gear, .func (.func 159) #[] #[], .string Mo.share, .func (.func 160) #[] #[]] 207)) := by show _ = _; rw [set_far _ (by simp; omega)]; exact k10
      have f11 : Hid ((w7.setCell ⟨w1.heap.size, 1, none⟩ (.int .i64 (v + c.r 1))).heap[w3.heap.size]? = some (Obj.cells #[.int .i64 (Mo.bfree c (pre ++ [(tt, ⟨1, by decide⟩)]))] 3)) := by show _ = _; rw [set_far _ (by simp; omega), hfo.out]; exact k11
      have hB8 := (hB.call hb7 rfl).setCell (p := ⟨w1.heap.size, 1, none⟩) (by show w.heap.size ≤ w1.heap.size; omega) (.int .i64 (v + c.r 1))
      have hKO : KeepsOthers W (w7.setCell ⟨w1.heap.size, 1, none⟩ (.int .i64 (v + c.r 1))) := (keeps_below hb7).trans (KeepsOthers.setCell _ _ _)
      have hKX : KpX w1.heap.size w3.heap.size W (w7.setCell ⟨w1.heap.size, 1, none⟩ (.int .i64 (v + c.r 1))) := KpX.set (KpX.of_below hb7) _ _ (.inl rfl)
      clear k0 k1 k9 k10 k11 hst hfo hb7
      go_wp2
      exact ⟨hKO, hKX, ⟨f0.out, f1.out, f9.out, f10.out, f11.out⟩, hB8⟩
    · by_cases hpaid : Mo.bfree c pre ≤ 0
      · have hpn : ¬ (0 < Mo.bfree c pre) := by omega
        have hst := Lib.hid (binv_step c pre tt 2 (by decide) (fun _ => hpaid) hok)
        have hfo := Lib.hid (bfree_other c pre tt 2 (by decide) (fun _ => hpaid))
        have hvb := bh_bd c hok pre (by omega) 2 (by decide)
        have hrb := hok.r 2 (by decide)
        obtain ⟨v, hv⟩ : ∃ v, v = Mo.bh c pre 2 * c.r 2 := ⟨_, rfl⟩
        have pc : W.cell? ⟨w1.heap.size, 2, none⟩ = some (.int .i64 v) := by rw [hv]; exact cell_at H9.out rfl
        rw [← hv] at hst hvb
        clear hv
        gi_wp2
        refine wpIn_region_splitG 13 (by kernel_rfl) (by kernel_rfl) (by kernel_rfl) ?hq2 ?hmain2
        case hq2 =>
          rintro ⟨_, _, h⟩
          first | exact h | exact h.elim
        simp only [List.take_succ_cons, List.take_zero, List.drop_succ_cons, List.drop_zero]
        repeat (go_big_quiet_step ((first | (go_at_call 157; exact Calls.gw_of (c157 c _)))))
        refine wpQuiet_nil (gw_out ?_)
        intro w7 hb7
        have k0 := (hb7.block _ n0).trans H0.out
        have k1 := (hb7.block _ n1).trans H1.out
        have k9 := (hb7.block _ n9).trans H9.out
        have k10 := (hb7.block _ n10).trans H10.out
        have k11 := (hb7.block _ n11).trans H11.out
        have kf : w7.frozen? ⟨w1.heap.size, 2, none⟩ = false := free_at k9
        have kc : w7.cell? ⟨w1.heap.size, 2, none⟩ = some (.int .i64 v) := ((bcell hb7).1 _ _ n9).trans pc
        have f0 : Hid ((w7.setCell ⟨w1.heap.size, 2, none⟩ (.int .i64 (v + c.r 2))).heap[w.heap.size]? = some (Obj.cells #[.int .i64 (c.r 0), .int .i64 (c.r 1), .int .i64 (c.r 2), .int .i64 (c.r 3), .int .i64 (c.r 4), .int .i64 (c.r 5), .int .i64 c.free, .int .i64 c.bonus, .int .i64 c.pen] 130)) := by show _ = _; rw [set_far _ (by simp; omega)]; exact k0
        have f1 : Hid ((w7.setCell ⟨w1.heap.size, 2, none⟩ (.int .i64 (v + c.r 2))).heap[w.heap.size + 1]? = some (Obj.cells #[.int .i64 0, .int .i64 0, .int .i64 0, .int .i64 0, .int .i64 0, .int .i64 0, .int .i64 0, .int .i64 0] 91)) := by show _ = _; rw [set_far _ (by simp; omega)]; exact k1
        have f9 : Hid ((w7.setCell ⟨w1.heap.size, 2, none⟩ (.int .i64 (v + c.r 2))).heap[w1.heap.size]? = some (Obj.cells (Mo.binv c (pre ++ [(tt, ⟨2, by decide⟩)])).arr 91)) := by show _ = _; rw [set_blk k9, hst.out]
        have f10 : Hid ((w7.setCell ⟨w1.heap.size, 2, none⟩ (.int .i64 (v + c.r 2))).heap[w2.heap.size]? = some (Obj.cells #[.string Mo.shoot, .func (.func 155) #[] #[], .string Mo.turn, .func (.func 156) #[] #[], .string Mo.weather, .func (.func 157) #[] #[], .string Mo.animal, .func (.func 158) #[] #[], .string Mo.gear, .func (.func 159) #[] #[], .string Mo.share, .func (.func 160) #[] #[]] 207)) := by show _ = _; rw [set_far _ (by simp; omega)]; exact k10
        have f11 : Hid ((w7.setCell ⟨w1.heap.size, 2, none⟩ (.int .i64 (v + c.r 2))).heap[w3.heap.size]? = some (Obj.cells #[.int .i64 (Mo.bfree c (pre ++ [(tt, ⟨2, by decide⟩)]))] 3)) := by show _ = _; rw [set_far _ (by simp; omega), hfo.out]; exact k11
        have hB8 := (hB.call hb7 rfl).setCell (p := ⟨w1.heap.size, 2, none⟩) (by show w.heap.size ≤ w1.heap.size; omega) (.int .i64 (v + c.r 2))
        have hKO : KeepsOthers W (w7.setCell ⟨w1.heap.size, 2, none⟩ (.int .i64 (v + c.r 2))) := (keeps_below hb7).trans (KeepsOthers.setCell _ _ _)
        have hKX : KpX w1.heap.size w3.heap.size W (w7.setCell ⟨w1.heap.size, 2, none⟩ (.int .i64 (v + c.r 2))) := KpX.set (KpX.of_below hb7) _ _ (.inl rfl)
        clear k0 k1 k9 k10 k11 hst hfo hb7
        go_wp2
        exact ⟨hKO, hKX, ⟨f0.out, f1.out, f9.out, f10.out, f11.out⟩, hB8⟩
      · have hpn : 0 < Mo.bfree c pre := by omega
        obtain ⟨hf1, hf2⟩ := binv_free c pre tt hpn
        have HF1 := Lib.hid hf1
        have HF2 := Lib.hid hf2
        have f0 : Hid ((W.setCell ⟨w3.heap.size, 0, none⟩ (.int .i64 (Mo.bfree c pre - 1))).heap[w.heap.size]? = some (Obj.cells #[.int .i64 (c.r 0), .int .i64 (c.r 1), .int .i64 (c.r 2), .int .i64 (c.r 3), .int .i64 (c.r 4), .int .i64 (c.r 5), .int .i64 c.free, .int .i64 c.bonus, .int .i64 c.pen] 130)) := by show _ = _; rw [set_far _ (by simp; omega)]; exact H0.out
        have f1 : Hid ((W.setCell ⟨w3.heap.size, 0, none⟩ (.int .i64 (Mo.bfree c pre - 1))).heap[w.heap.size + 1]? = some (Obj.cells #[.int .i64 0, .int .i64 0, .int .i64 0, .int .i64 0, .int .i64 0, .int .i64 0, .int .i64 0, .int .i64 0] 91)) := by show _ = _; rw [set_far _ (by simp; omega)]; exact H1.out
        have f9 : Hid ((W.setCell ⟨w3.heap.size, 0, none⟩ (.int .i64 (Mo.bfree c pre - 1))).heap[w1.heap.size]? = some (Obj.cells (Mo.binv c (pre ++ [(tt, ⟨2, by decide⟩)])).arr 91)) := by show _ = _; rw [set_far _ (by simp; omega), HF1.out]; exact H9.out
        have f10 : Hid ((W.setCell ⟨w3.heap.size, 0, none⟩ (.int .i64 (Mo.bfree c pre - 1))).heap[w2.heap.size]? = some (Obj.cells #[.string Mo.shoot, .func (.func 155) #[] #[], .string Mo.turn, .func (.func 156) #[] #[], .string Mo.weather, .func (.func 157) #[] #[], .string Mo.animal, .func (.func 158) #[] #[], .string Mo.gear, .func (.func 159) #[] #[], .string Mo.share, .func (.func 160) #[] #[]] 207)) := by show _ = _; rw [set_far _ (by simp; omega)]; exact H10.out
        have f11 : Hid ((W.setCell ⟨w3.heap.size, 0, none⟩ (.int .i64 (Mo.bfree c pre - 1))).heap[w3.heap.size]? = some (Obj.cells #[.int .i64 (Mo.bfree c (pre ++ [(tt, ⟨2, by decide⟩)]))] 3)) := by show _ = _; rw [set_blk H11.out, HF2.out]; rfl
        have hB8 := hB.setCell (p := ⟨w3.heap.size, 0, none⟩) (by show w.heap.size ≤ w3.heap.size; omega) (.int .i64 (Mo.bfree c pre - 1))
        have hKO : KeepsOthers W (W.setCell ⟨w3.heap.size, 0, none⟩ (.int .i64 (Mo.bfree c pre - 1))) := KeepsOthers.setCell _ _ _
        have hKX : KpX w1.heap.size w3.heap.size W (W.setCell ⟨w3.heap.size, 0, none⟩ (.int .i64 (Mo.bfree c pre - 1))) := KpX.set (KpX.refl _ _ _) _ _ (.inr rfl)
        clear hf1 hf2
        gi_wp2
        exact ⟨hKO, hKX, ⟨f0.out, f1.out, f9.out, f10.out, f11.out⟩, hB8⟩
    · have hst := Lib.hid (binv_step c pre tt 3 (by decide) (fun h => by cases h) hok)
      have hfo := Lib.hid (bfree_other c pre tt 3 (by decide) (fun h => by cases h))
      have hvb := bh_bd c hok pre (by omega) 3 (by decide)
      have hrb := hok.r 3 (by decide)
      obtain ⟨v, hv⟩ : ∃ v, v = Mo.bh c pre 3 * c.r 3 := ⟨_, rfl⟩
      have pc : W.cell? ⟨w1.heap.size, 3, none⟩ = some (.int .i64 v) := by rw [hv]; exact cell_at H9.out rfl
      rw [← hv] at hst hvb
      clear hv
      gi_wp2
      refine wpIn_region_splitG 13 (by kernel_rfl) (by kernel_rfl) (by kernel_rfl) ?hq3 ?hmain3
      case hq3 =>
        rintro ⟨_, _, h⟩
        first | exact h | exact h.elim
      simp only [List.take_succ_cons, List.take_zero, List.drop_succ_cons, List.drop_zero]
      repeat (go_big_quiet_step ((first | (go_at_call 158; exact Calls.gw_of (c158 c _)))))
      refine wpQuiet_nil (gw_out ?_)
      intro w7 hb7
      have k0 := (hb7.block _ n0).trans H0.out
      have k1 := (hb7.block _ n1).trans H1.out
      have k9 := (hb7.block _ n9).trans H9.out
      have k10 := (hb7.block _ n10).trans H10.out
      have k11 := (hb7.block _ n11).trans H11.out
      have kf : w7.frozen? ⟨w1.heap.size, 3, none⟩ = false := free_at k9
      have kc : w7.cell? ⟨w1.heap.size, 3, none⟩ = some (.int .i64 v) := ((bcell hb7).1 _ _ n9).trans pc
      have f0 : Hid ((w7.setCell ⟨w1.heap.size, 3, none⟩ (.int .i64 (v + c.r 3))).heap[w.heap.size]? = some (Obj.cells #[.int .i64 (c.r 0), .int .i64 (c.r 1), .int .i64 (c.r 2), .int .i64 (c.r 3), .int .i64 (c.r 4), .int .i64 (c.r 5), .int .i64 c.free, .int .i64 c.bonus, .int .i64 c.pen] 130)) := by show _ = _; rw [set_far _ (by simp; omega)]; exact k0
      have f1 : Hid ((w7.setCell ⟨w1.heap.size, 3, none⟩ (.int .i64 (v + c.r 3))).heap[w.heap.size + 1]? = some (Obj.cells #[.int .i64 0, .int .i64 0, .int .i64 0, .int .i64 0, .int .i64 0, .int .i64 0, .int .i64 0, .int .i64 0] 91)) := by show _ = _; rw [set_far _ (by simp; omega)]; exact k1
      have f9 : Hid ((w7.setCell ⟨w1.heap.size, 3, none⟩ (.int .i64 (v + c.r 3))).heap[w1.heap.size]? = some (Obj.cells (Mo.binv c (pre ++ [(tt, ⟨3, by decide⟩)])).arr 91)) := by show _ = _; rw [set_blk k9, hst.out]
      have f10 : Hid ((w7.setCell ⟨w1.heap.size, 3, none⟩ (.int .i64 (v + c.r 3))).heap[w2.heap.size]? = some (Obj.cells #[.string Mo.shoot, .func (.func 155) #[] #[], .string Mo.turn, .func (.func 156) #[] #[], .string Mo.weather, .func (.func 157) #[] #[], .string Mo.animal, .func (.func 158) #[] #[], .string Mo.gear, .func (.func 159) #[] #[], .string Mo.share, .func (.func 160) #[] #[]] 207)) := by show _ = _; rw [set_far _ (by simp; omega)]; exact k10
      have f11 : Hid ((w7.setCell ⟨w1.heap.size, 3, none⟩ (.int .i64 (v + c.r 3))).heap[w3.heap.size]? = some (Obj.cells #[.int .i64 (Mo.bfree c (pre ++ [(tt, ⟨3, by decide⟩)]))] 3)) := by show _ = _; rw [set_far _ (by simp; omega), hfo.out]; exact k11
      have hB8 := (hB.call hb7 rfl).setCell (p := ⟨w1.heap.size, 3, none⟩) (by show w.heap.size ≤ w1.heap.size; omega) (.int .i64 (v + c.r 3))
      have hKO : KeepsOthers W (w7.setCell ⟨w1.heap.size, 3, none⟩ (.int .i64 (v + c.r 3))) := (keeps_below hb7).trans (KeepsOthers.setCell _ _ _)
      have hKX : KpX w1.heap.size w3.heap.size W (w7.setCell ⟨w1.heap.size, 3, none⟩ (.int .i64 (v + c.r 3))) := KpX.set (KpX.of_below hb7) _ _ (.inl rfl)
      clear k0 k1 k9 k10 k11 hst hfo hb7
      go_wp2
      exact ⟨hKO, hKX, ⟨f0.out, f1.out, f9.out, f10.out, f11.out⟩, hB8⟩
    · have hst := Lib.hid (binv_step c pre tt 4 (by decide) (fun h => by cases h) hok)
      have hfo := Lib.hid (bfree_other c pre tt 4 (by decide) (fun h => by cases h))
      have hvb := bh_bd c hok pre (by omega) 4 (by decide)
      have hrb := hok.r 4 (by decide)
      obtain ⟨v, hv⟩ : ∃ v, v = Mo.bh c pre 4 * c.r 4 := ⟨_, rfl⟩
      have pc : W.cell? ⟨w1.heap.size, 4, none⟩ = some (.int .i64 v) := by rw [hv]; exact cell_at H9.out rfl
      rw [← hv] at hst hvb
      clear hv
      gi_wp2
      refine wpIn_region_splitG 13 (by kernel_rfl) (by kernel_rfl) (by kernel_rfl) ?hq4 ?hmain4
      case hq4 =>
        rintro ⟨_, _, h⟩
        first | exact h | exact h.elim
      simp only [List.take_succ_cons, List.take_zero, List.drop_succ_cons, List.drop_zero]
      repeat (go_big_quiet_step ((first | (go_at_call 159; exact Calls.gw_of (c159 c _)))))
      refine wpQuiet_nil (gw_out ?_)
      intro w7 hb7
      have k0 := (hb7.block _ n0).trans H0.out
      have k1 := (hb7.block _ n1).trans H1.out
      have k9 := (hb7.block _ n9).trans H9.out
      have k10 := (hb7.block _ n10).trans H10.out
      have k11 := (hb7.block _ n11).trans H11.out
      have kf : w7.frozen? ⟨w1.heap.size, 4, none⟩ = false := free_at k9
      have kc : w7.cell? ⟨w1.heap.size, 4, none⟩ = some (.int .i64 v) := ((bcell hb7).1 _ _ n9).trans pc
      have f0 : Hid ((w7.setCell ⟨w1.heap.size, 4, none⟩ (.int .i64 (v + c.r 4))).heap[w.heap.size]? = some (Obj.cells #[.int .i64 (c.r 0), .int .i64 (c.r 1), .int .i64 (c.r 2), .int .i64 (c.r 3), .int .i64 (c.r 4), .int .i64 (c.r 5), .int .i64 c.free, .int .i64 c.bonus, .int .i64 c.pen] 130)) := by show _ = _; rw [set_far _ (by simp; omega)]; exact k0
      have f1 : Hid ((w7.setCell ⟨w1.heap.size, 4, none⟩ (.int .i64 (v + c.r 4))).heap[w.heap.size + 1]? = some (Obj.cells #[.int .i64 0, .int .i64 0, .int .i64 0, .int .i64 0, .int .i64 0, .int .i64 0, .int .i64 0, .int .i64 0] 91)) := by show _ = _; rw [set_far _ (by simp; omega)]; exact k1
      have f9 : Hid ((w7.setCell ⟨w1.heap.size, 4, none⟩ (.int .i64 (v + c.r 4))).heap[w1.heap.size]? = some (Obj.cells (Mo.binv c (pre ++ [(tt, ⟨4, by decide⟩)])).arr 91)) := by show _ = _; rw [set_blk k9, hst.out]
      have f10 : Hid ((w7.setCell ⟨w1.heap.size, 4, none⟩ (.int .i64 (v + c.r 4))).heap[w2.heap.size]? = some (Obj.cells #[.string Mo.shoot, .func (.func 155) #[] #[], .string Mo.turn, .func (.func 156) #[] #[], .string Mo.weather, .func (.func 157) #[] #[], .string Mo.animal, .func (.func 158) #[] #[], .string Mo.gear, .func (.func 159) #[] #[], .string Mo.share, .func (.func 160) #[] #[]] 207)) := by show _ = _; rw [set_far _ (by simp; omega)]; exact k10
      have f11 : Hid ((w7.setCell ⟨w1.heap.size, 4, none⟩ (.int .i64 (v + c.r 4))).heap[w3.heap.size]? = some (Obj.cells #[.int .i64 (Mo.bfree c (pre ++ [(tt, ⟨4, by decide⟩)]))] 3)) := by show _ = _; rw [set_far _ (by simp; omega), hfo.out]; exact k11
      have hB8 := (hB.call hb7 rfl).setCell (p := ⟨w1.heap.size, 4, none⟩) (by show w.heap.size ≤ w1.heap.size; omega) (.int .i64 (v + c.r 4))
      have hKO : KeepsOthers W (w7.setCell ⟨w1.heap.size, 4, none⟩ (.int .i64 (v + c.r 4))) := (keeps_below hb7).trans (KeepsOthers.setCell _ _ _)
      have hKX : KpX w1.heap.size w3.heap.size W (w7.setCell ⟨w1.heap.size, 4, none⟩ (.int .i64 (v + c.r 4))) := KpX.set (KpX.of_below hb7) _ _ (.inl rfl)
      clear k0 k1 k9 k10 k11 hst hfo hb7
      go_wp2
      exact ⟨hKO, hKX, ⟨f0.out, f1.out, f9.out, f10.out, f11.out⟩, hB8⟩
    · have hst := Lib.hid (binv_step c pre tt 5 (by decide) (fun h => by cases h) hok)
      have hfo := Lib.hid (bfree_other c pre tt 5 (by decide) (fun h => by cases h))
      have hvb := bh_bd c hok pre (by omega) 5 (by decide)
      have hrb := hok.r 5 (by decide)
      obtain ⟨v, hv⟩ : ∃ v, v = Mo.bh c pre 5 * c.r 5 := ⟨_, rfl⟩
      have pc : W.cell? ⟨w1.heap.size, 5, none⟩ = some (.int .i64 v) := by rw [hv]; exact cell_at H9.out rfl
      rw [← hv] at hst hvb
      clear hv
      gi_wp2
      refine wpIn_region_splitG 13 (by kernel_rfl) (by kernel_rfl) (by kernel_rfl) ?hq5 ?hmain5
      case hq5 =>
        rintro ⟨_, _, h⟩
        first | exact h | exact h.elim
      simp only [List.take_succ_cons, List.take_zero, List.drop_succ_cons, List.drop_zero]
      repeat (go_big_quiet_step ((first | (go_at_call 160; exact Calls.gw_of (c160 c _)))))
      refine wpQuiet_nil (gw_out ?_)
      intro w7 hb7
      have k0 := (hb7.block _ n0).trans H0.out
      have k1 := (hb7.block _ n1).trans H1.out
      have k9 := (hb7.block _ n9).trans H9.out
      have k10 := (hb7.block _ n10).trans H10.out
      have k11 := (hb7.block _ n11).trans H11.out
      have kf : w7.frozen? ⟨w1.heap.size, 5, none⟩ = false := free_at k9
      have kc : w7.cell? ⟨w1.heap.size, 5, none⟩ = some (.int .i64 v) := ((bcell hb7).1 _ _ n9).trans pc
      have f0 : Hid ((w7.setCell ⟨w1.heap.size, 5, none⟩ (.int .i64 (v + c.r 5))).heap[w.heap.size]? = some (Obj.cells #[.int .i64 (c.r 0), .int .i64 (c.r 1), .int .i64 (c.r 2), .int .i64 (c.r 3), .int .i64 (c.r 4), .int .i64 (c.r 5), .int .i64 c.free, .int .i64 c.bonus, .int .i64 c.pen] 130)) := by show _ = _; rw [set_far _ (by simp; omega)]; exact k0
      have f1 : Hid ((w7.setCell ⟨w1.heap.size, 5, none⟩ (.int .i64 (v + c.r 5))).heap[w.heap.size + 1]? = some (Obj.cells #[.int .i64 0, .int .i64 0, .int .i64 0, .int .i64 0, .int .i64 0, .int .i64 0, .int .i64 0, .int .i64 0] 91)) := by show _ = _; rw [set_far _ (by simp; omega)]; exact k1
      have f9 : Hid ((w7.setCell ⟨w1.heap.size, 5, none⟩ (.int .i64 (v + c.r 5))).heap[w1.heap.size]? = some (Obj.cells (Mo.binv c (pre ++ [(tt, ⟨5, by decide⟩)])).arr 91)) := by show _ = _; rw [set_blk k9, hst.out]
      have f10 : Hid ((w7.setCell ⟨w1.heap.size, 5, none⟩ (.int .i64 (v + c.r 5))).heap[w2.heap.size]? = some (Obj.cells #[.string Mo.shoot, .func (.func 155) #[] #[], .string Mo.turn, .func (.func 156) #[] #[], .string Mo.weather, .func (.func 157) #[] #[], .string Mo.animal, .func (.func 158) #[] #[], .string Mo.gear, .func (.func 159) #[] #[], .string Mo.share, .func (.func 160) #[] #[]] 207)) := by show _ = _; rw [set_far _ (by simp; omega)]; exact k10
      have f11 : Hid ((w7.setCell ⟨w1.heap.size, 5, none⟩ (.int .i64 (v + c.r 5))).heap[w3.heap.size]? = some (Obj.cells #[.int .i64 (Mo.bfree c (pre ++ [(tt, ⟨5, by decide⟩)]))] 3)) := by show _ = _; rw [set_far _ (by simp; omega), hfo.out]; exact k11
      have hB8 := (hB.call hb7 rfl).setCell (p := ⟨w1.heap.size, 5, none⟩) (by show w.heap.size ≤ w1.heap.size; omega) (.int .i64 (v + c.r 5))
      have hKO : KeepsOthers W (w7.setCell ⟨w1.heap.size, 5, none⟩ (.int .i64 (v + c.r 5))) := (keeps_below hb7).trans (KeepsOthers.setCell _ _ _)
      have hKX : KpX w1.heap.size w3.heap.size W (w7.setCell ⟨w1.heap.size, 5, none⟩ (.int .i64 (v + c.r 5))) := KpX.set (KpX.of_below hb7) _ _ (.inl rfl)
      clear k0 k1 k9 k10 k11 hst hfo hb7
      go_wp2
      exact ⟨hKO, hKX, ⟨f0.out, f1.out, f9.out, f10.out, f11.out⟩, hB8⟩
  case hdone =>
    rintro D xs W hD rfl ⟨⟨h0, h1, h9, h10, h11⟩, hB⟩ hK
    rw [Mo.binv_all c l ho2] at h9
    have HX := Lib.hid (c124 (Inv.mk (Mo.prodI c l) 0 0) c hok G gcap rs W hr1 (fun i hi => by
      have := Mo.prod_bd c l hok ho1 ho2 i hi
      show -1000000000000 ≤ Mo.hh c l i * c.r i ∧ Mo.hh c l i * c.r i ≤ 1000000000000
      omega) rfl (HG.below hB))
    have hfin : Hid ((Mo.billI c l rs).arr = (Inv.mk (Mo.prodI c l) (Mo.lsum c rs) (Mo.lsum c rs + Mo.psum (Mo.prodI c l) 6)).arr) := rfl
    obtain ⟨pf, hpf⟩ : ∃ pf, pf = Mo.prodI c l := ⟨_, rfl⟩
    rw [← hpf] at h9 HX hfin
    have n1 : w.heap.size + 1 < W.heap.size := (Array.getElem?_eq_some_iff.1 h1).1
    have nD : D < W.heap.size := (Array.getElem?_eq_some_iff.1 hK).1
    have hDn : w.heap.size + 1 < D := by omega
    have n0 : w.heap.size < W.heap.size := by omega
    have n9 : w1.heap.size < W.heap.size := (Array.getElem?_eq_some_iff.1 h9).1
    have v0 : W.cell? ⟨w1.heap.size, 0, none⟩ = some (.int .i64 (pf 0)) := cell_at h9 rfl
    have v1 : W.cell? ⟨w1.heap.size, 1, none⟩ = some (.int .i64 (pf 1)) := cell_at h9 rfl
    have v2 : W.cell? ⟨w1.heap.size, 2, none⟩ = some (.int .i64 (pf 2)) := cell_at h9 rfl
    have v3 : W.cell? ⟨w1.heap.size, 3, none⟩ = some (.int .i64 (pf 3)) := cell_at h9 rfl
    have v4 : W.cell? ⟨w1.heap.size, 4, none⟩ = some (.int .i64 (pf 4)) := cell_at h9 rfl
    have v5 : W.cell? ⟨w1.heap.size, 5, none⟩ = some (.int .i64 (pf 5)) := cell_at h9 rfl
    have v6 : W.cell? ⟨w1.heap.size, 6, none⟩ = some (.int .i64 0) := cell_at h9 rfl
    have v7 : W.cell? ⟨w1.heap.size, 7, none⟩ = some (.int .i64 0) := cell_at h9 rfl
    have b0 : W.cell? ⟨w.heap.size, 0, none⟩ = some (.int .i64 (c.r 0)) := cell_at h0 rfl
    have b1 : W.cell? ⟨w.heap.size, 1, none⟩ = some (.int .i64 (c.r 1)) := cell_at h0 rfl
    have b2 : W.cell? ⟨w.heap.size, 2, none⟩ = some (.int .i64 (c.r 2)) := cell_at h0 rfl
    have b3 : W.cell? ⟨w.heap.size, 3, none⟩ = some (.int .i64 (c.r 3)) := cell_at h0 rfl
    have b4 : W.cell? ⟨w.heap.size, 4, none⟩ = some (.int .i64 (c.r 4)) := cell_at h0 rfl
    have b5 : W.cell? ⟨w.heap.size, 5, none⟩ = some (.int .i64 (c.r 5)) := cell_at h0 rfl
    have b6 : W.cell? ⟨w.heap.size, 6, none⟩ = some (.int .i64 c.free) := cell_at h0 rfl
    have b7 : W.cell? ⟨w.heap.size, 7, none⟩ = some (.int .i64 c.bonus) := cell_at h0 rfl
    have b8 : W.cell? ⟨w.heap.size, 8, none⟩ = some (.int .i64 c.pen) := cell_at h0 rfl
    have H1 := Lib.hid h1
    have HK := Lib.hid hK
    clear h0 h1 h9 h10 h11 hK hpf
    go_wp2_with fail
    refine HX.out.mono ?_
    rintro e w8 ⟨rfl, hb8⟩
    have hB8 := hB.call hb8 rfl
    have hz8 := (hb8.block _ n1).trans H1.out
    have hk8 := (hb8.block _ nD).trans HK.out
    clear HX H1 HK hb8
    go_wp2_with (refine wpList_store_blk rfl 91 _ _ rfl (w.heap.size + 1) _ rfl rfl hz8 ?s1 ?s2 ?s3 ?_)
    case s1 => rfl
    case s2 => kernel_rfl
    case s3 => simp [Value.oneCell', Inv.arr]
    intro w9 h3 hg3 hs3
    have hB9 : Below w.heap.size w w9 := hB8.grown hg3 hB8.size (fun j hj => by cases hj; omega)
    have hk9 := (hg3.block D (Array.getElem?_eq_some_iff.1 hk8).1 (by simp; omega)).trans hk8
    clear hz8 hk8 hg3
    go_wp2
    refine ⟨by simp, .inl ⟨_, _, rfl, run_takeDeferred hk9, ?_⟩⟩
    refine ⟨_, results_blk_tmp rfl rfl (blk_keep (B0 := 0) h3 (grownBy_putObj' w9 D (.deferred none)) (fun r e => by cases e; exact ⟨Nat.zero_le _, _, hk9, rfl⟩)) _ Tryz.underlying91 rfl (by kernel_rfl), ?_⟩
    exact ⟨by rw [hfin.out]; rfl, hB9.trans (belowK_b (w := w) (Nat.le_refl _) w9 D _ _ (by omega) hk9 rfl rfl)⟩
  case hstop =>
    rintro D cc pre W _ _ h _
    exact h.elim

theorem c68 (c : Con) (A : Option Addr) (cap : Nat) (l : List Ent) (G : Option Addr) (gcap : Nat) (rs : List Res) (w : World) (hl : l.length ≤ 1000000) (hg : rs.length ≤ 1000000) (hgc : rs.length ≤ gcap) (hgc2 : gcap ≤ 9223372036854775807) (hle : ∀ e ∈ l, e.c.size ≤ 1000000) (hrs : ∀ x ∈ rs, x.n.size ≤ 1000000) (H : RdL w 3 Ent.enc A l) (HG : RdL w 3 Res.enc G rs) (hnw : ∀ b off, A = some ⟨b, off, none⟩ → b < w.heap.size) :
    Calls Tryz.prog 68 #[.agg #[.int .i64 (c.r 0), .int .i64 (c.r 1), .int .i64 (c.r 2), .int .i64 (c.r 3), .int .i64 (c.r 4), .int .i64 (c.r 5), .int .i64 c.free, .int .i64 c.bonus, .int .i64 c.pen], .slice A l.length cap, .slice G rs.length gcap] w fun en w' => en = .returned (.tuple #[.agg (Mo.billV c l rs).arr, .int .i64 (Mo.bill c l rs)]) ∧ Below w.heap.size w w' := by
  by_cases hE : Mo.bill c l rs = 0
  · have hbv : Mo.billV c l rs = Mo.billI c l rs := by unfold Mo.billV; rw [if_neg (by simp [hE])]
    rw [hbv, hE]
    exact c68_ok c A cap l G gcap rs w hl hg hgc hgc2 hle hrs H HG hnw hE
  · obtain ⟨W, hW⟩ : ∃ W, W = (w.alloc (Obj.cells #[.int .i64 (c.r 0), .int .i64 (c.r 1), .int .i64 (c.r 2), .int .i64 (c.r 3), .int .i64 (c.r 4), .int .i64 (c.r 5), .int .i64 c.free, .int .i64 c.bonus, .int .i64 c.pen] 130)).alloc (Obj.cells #[.int .i64 0, .int .i64 0, .int .i64 0, .int .i64 0, .int .i64 0, .int .i64 0, .int .i64 0, .int .i64 0] 91) := ⟨_, rfl⟩
    have hB0 : Below w.heap.size w W := by rw [hW]; exact (((Below.refl _ _).alloc (by first | omega | (simp <;> omega)) _).alloc (by first | omega | (simp <;> omega)) _)
    have hT1 : W.heap[w.heap.size + 1]? = some (Obj.cells #[.int .i64 0, .int .i64 0, .int .i64 0, .int .i64 0, .int .i64 0, .int .i64 0, .int .i64 0, .int .i64 0] 91) := by rw [hW]; exact heap_new (by simp)
    have HC := Lib.hid (c122 c A cap l G gcap rs W hl hg hgc hgc2 hle hrs (H.below hB0) (HG.below hB0))
    have z1 : w.heap.size + 1 < W.heap.size := (Array.getElem?_eq_some_iff.1 hT1).1
    have hE' : (Mo.bill c l rs != 0) = true := by simpa using hE
    have hbv : Mo.billV c l rs = Mo.zeroI := by unfold Mo.billV; rw [if_pos hE]
    rw [hbv]
    obtain ⟨E, hEe⟩ : ∃ E, E = Mo.bill c l rs := ⟨_, rfl⟩
    obtain ⟨n, hn⟩ : ∃ n, n = l.length := ⟨_, rfl⟩
    obtain ⟨m, hm⟩ : ∃ m, m = rs.length := ⟨_, rfl⟩
    rw [← hEe] at hE' HC ⊢
    rw [← hn] at HC ⊢
    rw [← hm] at HC ⊢
    clear hbv hEe hE hn hm H HG hle hrs hl hg hgc hgc2 hnw
    go_enter Tryz.func68, Tryz.ntmps68
    go_wp2_with fail
    rw [← hW]
    clear hW
    refine HC.out.mono ?_
    rintro e w1 ⟨rfl, hb1⟩
    have hB1 := hB0.call hb1 rfl
    have t1 := (hb1.block _ z1).trans hT1
    clear hb1 HC
    go_wp2_with (refine wpList_store_blk rfl 91 _ _ rfl (w.heap.size + 1) _ rfl rfl t1 ?s1 ?s2 ?s3 ?_)
    case s1 => rfl
    case s2 => kernel_rfl
    case s3 => simp [Value.oneCell', Inv.arr]
    intro w3 h3 hg3 hs3
    have hB9 : Below w.heap.size w w3 := hB1.grown hg3 hB1.size (fun j hj => by cases hj; omega)
    go_wp2
    exact bodyPost_ret (results_blk_tmp rfl rfl h3 _ Tryz.underlying91 rfl (by kernel_rfl)) rfl ⟨rfl, hB9⟩

end Go.Proofs.YtndhjkammoeikaaGreatDoor
/-
  DERIVED: THE SHELF's CONTRACTS AT THIS DUMP, IN PLAIN WORDS (tools/lay-plain.mjs out of 'TryzShelf.lean', which tools/lay-shelf.mjs wrote): THE SAME DECLARATIONS UNDER THE SAME NAMES: 'import', 'namespace', 'open', 'def', 'theorem' AND NOTHING ELSE: no command of the shelf's: FOR A HAND-IN. Each laying: the table of numbers ('.._ren') and one theorem, a field a fact of the dump's own or the kernel's comparison; each contract: ONE APPLICATION.
-/
namespace Go.Proofs
open Go.Shelf
def Tryz.lays156_ren : Go.Shelf.Ren := ⟨fun | 156 => 134 | 165 => 164 | 166 => 165 | 169 => 166 | 240 => 178 | 241 => 179 | 276 => 186 | 277 => 187 | n => n, fun | 31 => 88 | 9 => 9 | 3 => 3 | 4 => 4 | 0 => 0 | 20 => 20 | 72 => 249 | 76 => 253 | 70 => 246 | 37 => 247 | 75 => 252 | 127 => 261 | 164 => 266 | 5 => 5 | 80 => 233 | n => n, fun | n => n⟩
theorem Tryz.lays156 : Go.Proofs.Lays.n156 Tryz.prog Tryz.lays156_ren := {
  mixed := by kernel_rfl
  f156 := Tryz.func134.trans (congrArg some (by kernel_rfl))
  f165 := Tryz.func164.trans (congrArg some (by kernel_rfl))
  f166 := Tryz.func165.trans (congrArg some (by kernel_rfl))
  f169 := Tryz.func166.trans (congrArg some (by kernel_rfl))
  f240 := Tryz.func178.trans (congrArg some (by kernel_rfl))
  f241 := Tryz.func179.trans (congrArg some (by kernel_rfl))
  f276 := Tryz.func186.trans (congrArg some (by kernel_rfl))
  f277 := Tryz.func187.trans (congrArg some (by kernel_rfl))
  t0 := Tryz.underlying0
  a0 := Tryz.isAgg0
  z0 := Tryz.sizeOf0
  v0 := Tryz.zeroValue0
  t3 := Tryz.underlying3
  a3 := Tryz.isAgg3
  z3 := Tryz.sizeOf3
  v3 := Tryz.zeroValue3
  t4 := Tryz.underlying4
  a4 := Tryz.isAgg4
  z4 := Tryz.sizeOf4
  v4 := Tryz.zeroValue4
  t9 := Tryz.underlying9
  a9 := Tryz.isAgg9
  z9 := Tryz.sizeOf9
  v9 := Tryz.zeroValue9
  t20 := Tryz.underlying20
  a20 := Tryz.isAgg20
  z20 := Tryz.sizeOf20
  v20 := Tryz.zeroValue20
  t31 := Tryz.underlying88
  a31 := Tryz.isAgg88
  z31 := Tryz.sizeOf88
  v31 := Tryz.zeroValue88
  t37 := Tryz.underlying247
  a37 := Tryz.isAgg247
  z37 := Tryz.sizeOf247
  v37 := Tryz.zeroValue247
  t70 := Tryz.underlying246
  a70 := Tryz.isAgg246
  z70 := Tryz.sizeOf246
  v70 := Tryz.zeroValue246
  t72 := Tryz.underlying249
  a72 := Tryz.isAgg249
  z72 := Tryz.sizeOf249
  v72 := Tryz.zeroValue249
  t75 := Tryz.underlying252
  a75 := Tryz.isAgg252
  z75 := Tryz.sizeOf252
  v75 := Tryz.zeroValue252
  t76 := Tryz.underlying253
  a76 := Tryz.isAgg253
  z76 := Tryz.sizeOf253
  v76 := Tryz.zeroValue253
  t127 := Tryz.underlying261
  a127 := Tryz.isAgg261
  z127 := Tryz.sizeOf261
  v127 := Tryz.zeroValue261
  t164 := Tryz.underlying266
  a164 := Tryz.isAgg266
  z164 := Tryz.sizeOf266
  v164 := Tryz.zeroValue266 }
theorem Tryz.Builder_Extra_156 : Builder.Extra Tryz.prog Tryz.lays156_ren := {
  sizeBuilder := by kernel_rfl
  liesBuilder := by kernel_rfl
  t5 := Tryz.underlying5
  a5 := Tryz.isAgg5
  z5 := Tryz.sizeOf5
  v5 := Tryz.zeroValue5
  infoByte := by kernel_rfl
  cellsByte := by kernel_rfl
  sizeByte := by kernel_rfl
  neB5 := by decide }
open Go.RowKit in
/-- No element: the empty string; the world is as it was. (Whatever the slice's address and capacity: a nil slice too.) (LAID: no walk: one application.) -/
theorem Tryz.strings_Join_none (a : Option Addr) (c : Nat) (sep : ByteArray) (w : World) :
    Calls Tryz.prog 134 #[.slice a 0 c, .string sep] w fun e w' => e = .returned (.string ⟨#[]⟩) ∧ w' = w := Any.strings_Join_none Tryz.lays156 Tryz.Builder_Extra_156 a c sep w
open Go.RowKit in
/-- strings.Join: "Join concatenates the elements of its first argument to create a single string. The separator string sep is placed between elements in the resulting string.": HOWEVER MANY ELEMENTS. Below the heap's end the world is as it was. (LAID: no walk: one application.) -/
theorem Tryz.strings_Join (bk o c : Nat) (xs : List ByteArray) (sep : ByteArray) (w : World) (hcells : ∀ (j : Nat) x, xs[j]? = some x → w.cell? ⟨bk, o + j, none⟩ = some (.string x)) (hbk : bk < w.heap.size) (hN : xs.length ≤ 140737488355328) (hcap : xs.length ≤ c) (hlen : (Lib.join (xs.map (·.data.toList)) sep.data.toList).length ≤ 140737488355328) :
    Calls Tryz.prog 134 #[.slice (some ⟨bk, o, none⟩) xs.length c, .string sep] w fun e w' => e = .returned (.string ⟨(Lib.join (xs.map (·.data.toList)) sep.data.toList).toArray⟩) ∧ Below w.heap.size w w' := Any.strings_Join Tryz.lays156 Tryz.Builder_Extra_156 bk o c xs sep w hcells hbk hN hcap hlen
def Tryz.lays171_ren : Go.Shelf.Ren := ⟨fun | 171 => 137 | 243 => 167 | 246 => 180 | 283 => 188 | 284 => 189 | 285 => 190 | 286 => 191 | 129 => 198 | 317 => 197 | 318 => 199 | 319 => 200 | 320 => 201 | 337 => 206 | 338 => 207 | n => n, fun | 3 => 3 | 9 => 9 | 2 => 2 | 4 => 4 | 171 => 269 | 0 => 0 | 53 => 270 | 37 => 247 | 5 => 5 | 173 => 273 | 212 => 279 | 51 => 280 | 20 => 20 | 213 => 281 | 46 => 282 | 232 => 291 | 233 => 292 | n => n, fun | 17 => 1 | 18 => 4 | 19 => 5 | n => n⟩
theorem Tryz.lays171 : Go.Proofs.Lays.n171 Tryz.prog Tryz.lays171_ren := {
  mixed := by kernel_rfl
  f129 := Tryz.func198.trans (congrArg some (by kernel_rfl))
  f171 := Tryz.func137.trans (congrArg some (by kernel_rfl))
  f243 := Tryz.func167.trans (congrArg some (by kernel_rfl))
  f246 := Tryz.func180.trans (congrArg some (by kernel_rfl))
  f283 := Tryz.func188.trans (congrArg some (by kernel_rfl))
  f284 := Tryz.func189.trans (congrArg some (by kernel_rfl))
  f285 := Tryz.func190.trans (congrArg some (by kernel_rfl))
  f286 := Tryz.func191.trans (congrArg some (by kernel_rfl))
  f317 := Tryz.func197.trans (congrArg some (by kernel_rfl))
  f318 := Tryz.func199.trans (congrArg some (by kernel_rfl))
  f319 := Tryz.func200.trans (congrArg some (by kernel_rfl))
  f320 := Tryz.func201.trans (congrArg some (by kernel_rfl))
  f337 := Tryz.func206.trans (congrArg some (by kernel_rfl))
  f338 := Tryz.func207.trans (congrArg some (by kernel_rfl))
  t0 := Tryz.underlying0
  a0 := Tryz.isAgg0
  z0 := Tryz.sizeOf0
  v0 := Tryz.zeroValue0
  t2 := Tryz.underlying2
  a2 := Tryz.isAgg2
  z2 := Tryz.sizeOf2
  v2 := Tryz.zeroValue2
  t3 := Tryz.underlying3
  a3 := Tryz.isAgg3
  z3 := Tryz.sizeOf3
  v3 := Tryz.zeroValue3
  t4 := Tryz.underlying4
  a4 := Tryz.isAgg4
  z4 := Tryz.sizeOf4
  v4 := Tryz.zeroValue4
  t5 := Tryz.underlying5
  a5 := Tryz.isAgg5
  z5 := Tryz.sizeOf5
  v5 := Tryz.zeroValue5
  t9 := Tryz.underlying9
  a9 := Tryz.isAgg9
  z9 := Tryz.sizeOf9
  v9 := Tryz.zeroValue9
  t20 := Tryz.underlying20
  a20 := Tryz.isAgg20
  z20 := Tryz.sizeOf20
  v20 := Tryz.zeroValue20
  t37 := Tryz.underlying247
  a37 := Tryz.isAgg247
  z37 := Tryz.sizeOf247
  v37 := Tryz.zeroValue247
  t46 := Tryz.underlying282
  a46 := Tryz.isAgg282
  z46 := Tryz.sizeOf282
  v46 := Tryz.zeroValue282
  t51 := Tryz.underlying280
  a51 := Tryz.isAgg280
  z51 := Tryz.sizeOf280
  v51 := Tryz.zeroValue280
  t53 := Tryz.underlying270
  a53 := Tryz.isAgg270
  z53 := Tryz.sizeOf270
  v53 := Tryz.zeroValue270
  t171 := Tryz.underlying269
  a171 := Tryz.isAgg269
  z171 := Tryz.sizeOf269
  v171 := Tryz.zeroValue269
  t173 := Tryz.underlying273
  a173 := Tryz.isAgg273
  z173 := Tryz.sizeOf273
  v173 := Tryz.zeroValue273
  t212 := Tryz.underlying279
  a212 := Tryz.isAgg279
  z212 := Tryz.sizeOf279
  v212 := Tryz.zeroValue279
  t213 := Tryz.underlying281
  a213 := Tryz.isAgg281
  z213 := Tryz.sizeOf281
  t232 := Tryz.underlying291
  a232 := Tryz.isAgg291
  z232 := Tryz.sizeOf291
  v232 := Tryz.zeroValue291
  t233 := Tryz.underlying292
  a233 := Tryz.isAgg292
  z233 := Tryz.sizeOf292
  v233 := Tryz.zeroValue292
  g17 := by kernel_rfl
  g18 := by kernel_rfl
  g19 := by kernel_rfl }
open Go.RowKit Go.Sort Go.Lib in
/-- THE ROAD WITHOUT THE TABLE: 0 <= i < 100: NO PREMISE ON THE WORLD, AND THE WORLD IS AS IT WAS: a row that keeps its argument in that range need list no table ('laid = []'). (LAID: no walk: one application.) -/
theorem Tryz.strconv_Itoa_small (i : Nat) (hi : i < 100) (w : World) :
    Calls Tryz.prog 137 #[.int .i64 i] w fun e w' => e = .returned (.string ⟨(Lib.decDigits i).toArray⟩) ∧ w' = w := Any.strconv_Itoa_small Tryz.lays171 i hi w
end Go.Proofs
namespace Go.Proofs.YtndhjkammoeikaaGreatDoor
open Go.RowKit
set_option maxHeartbeats 1000000
set_option maxRecDepth 20000

/-- a line of two words and a text -/
def Mo.line3 (a b c : ByteArray) : ByteArray := ((((a ++ { data := #[32] }) ++ b) ++ { data := #[32] }) ++ c) ++ { data := #[10] }
/-- the line of an entry -/
def Mo.prLine (e : Ent) : ByteArray := Mo.line3 ⟨(Lib.itoa e.f).toArray⟩ ⟨(Lib.itoa e.t).toArray⟩ e.c
/-- the number is written -/
def ItoaOk (w : World) (n : Int) : Prop := (Lib.itoa n).length ≤ 21 ∧ ∀ W, Below w.heap.size w W → Calls Tryz.prog 137 #[.int .i64 n] W fun e w' => e = .returned (.string ⟨(Lib.itoa n).toArray⟩) ∧ Below W.heap.size W w'
theorem ItoaOk.below {w W : World} {n : Int} (h : ItoaOk w n) (hB : Below w.heap.size w W) : ItoaOk W n := ⟨h.1, fun W' hB' => h.2 W' (hB.call hB' rfl)⟩

theorem c136 (e : Ent) (w : World) (hc : e.c.size ≤ 1000000) (hf : ItoaOk w e.f) (ht : ItoaOk w e.t) : Calls Tryz.prog 136 #[.agg #[.int .i64 e.f, .int .i64 e.t, .string e.c]] w fun en w' => en = .returned (.string (Mo.prLine e)) ∧ Below w.heap.size w w' := by
  unfold Mo.prLine
  obtain ⟨hf1, hf2⟩ := hf
  obtain ⟨ht1, ht2⟩ := ht
  have sa : ByteArray.size ⟨(Lib.itoa e.f).toArray⟩ ≤ 21 := by simpa [ByteArray.size] using hf1
  have sb : ByteArray.size ⟨(Lib.itoa e.t).toArray⟩ ≤ 21 := by simpa [ByteArray.size] using ht1
  obtain ⟨a, ha⟩ : ∃ a : ByteArray, a = ⟨(Lib.itoa e.f).toArray⟩ := ⟨_, rfl⟩
  obtain ⟨b, hb⟩ : ∃ b : ByteArray, b = ⟨(Lib.itoa e.t).toArray⟩ := ⟨_, rfl⟩
  rw [← ha] at sa hf2 ⊢
  rw [← hb] at sb ht2 ⊢
  clear ha hb hf1 ht1
  have Hf := Lib.hid hf2
  have Ht := Lib.hid ht2
  clear hf2 ht2
  go_enter Tryz.func136, Tryz.ntmps136
  obtain ⟨W, hW⟩ : ∃ W, W = w.alloc (Obj.cells #[.int .i64 e.f, .int .i64 e.t, .string e.c] 134) := ⟨_, rfl⟩
  have hT0 : W.heap[w.heap.size]? = some (.cells #[.int .i64 e.f, .int .i64 e.t, .string e.c] 134 (0, 0)) := by rw [hW]; exact heap_new (by simp)
  have h0_0 : W.cell? ⟨w.heap.size, 0, none⟩ = some (.int .i64 e.f) := cell_at hT0 rfl
  have h0_1 : W.cell? ⟨w.heap.size, 1, none⟩ = some (.int .i64 e.t) := cell_at hT0 rfl
  have h0_2 : W.cell? ⟨w.heap.size, 2, none⟩ = some (.string e.c) := cell_at hT0 rfl
  have hs : w.heap.size + 1 = W.heap.size := by rw [hW]; simp
  have hB : Below w.heap.size w W := by rw [hW]; exact ((Below.refl _ _).alloc (by first | omega | (simp <;> omega)) _)
  have hlt : w.heap.size < W.heap.size := by omega
  have Hf' := Lib.hid (fun p => Hf.out _ (hB.trans ((Go.gw_below W p).mono (by omega))))
  have Ht' := Lib.hid (fun p => Ht.out _ (hB.trans ((Go.gw_below W p).mono (by omega))))
  go_wp2_with fail
  rw [← hW]
  have HW := Lib.hid hW
  clear hW
  refine wp_region_growG (by kernel_rfl) (by kernel_rfl) ?_
  repeat (go_big_quiet_step ((first | ((rw [if_neg (by omega)]; exact ⟨rfl, rfl⟩)) | (go_at_call 137; exact Calls.gw_of (Hf'.out _)) | (go_at_call 137; exact Calls.gw_of (Ht'.out _)))))
  refine wpQuiet_nil (gw_out ?_)
  intro w2 hb2
  go_wp2
  go_ret
  exact ⟨rfl, fin0 hB hb2⟩

theorem own_base {w : World} {B C : Nat} {e : TypeId} {s : Nat} {v : Value} {n : Nat} {xs : List Value} (h : w.ownsRow C e s v n xs) (hBC : B ≤ C) : w.ownsRow B e s v n xs := by
  refine ⟨h.1, h.2.imp id ?_⟩
  rintro ⟨g, cap, cur, h1, h2, h3⟩
  exact ⟨g, cap, cur, h1, by omega, h3⟩
theorem c135 (A : Option Addr) (cap : Nat) (l : List Ent) (f : Ent → ByteArray) (w : World) (hl : l.length ≤ 1000000) (H : RdL w 3 Ent.enc A l)
   (hcl : ∀ (W : World) (x : Ent), x ∈ l → Below w.heap.size w W →
      Calls Tryz.prog 136 #[.agg #[.int .i64 x.f, .int .i64 x.t, .string x.c]] W fun e w' => e = .returned (.string (f x)) ∧ Below W.heap.size W w') :
   Calls Tryz.prog 135 #[.slice A l.length cap, .func (.func 136) #[] #[]] w fun en w' => ∃ x, en = .returned x ∧ w'.ownsRow w.heap.size 9 1 x l.length (l.map fun x => .string (f x)) ∧ Below w.heap.size w w' := by
  obtain ⟨n, hn⟩ : ∃ n, n = l.length := ⟨_, rfl⟩
  rw [← hn] at hl ⊢
  have Hn := Lib.hid hn
  have Hcl := Lib.hid hcl
  clear hcl hn
  obtain ⟨i0, hi, hz0, hz1, hz2⟩ := info_parts info9
  go_enter Tryz.func135, Tryz.ntmps135
  go_wp2
  go_loopw [5, 10] (fun x i wr => ∃ k : Nat, k ≤ n ∧ i = .int .i64 k ∧ wr.ownsRow w.heap.size 9 1 x k ((l.map fun x => Value.string (f x)).take k) ∧ Below w.heap.size w wr) (fun _ i _ => n - (intOf i).toNat)
  case atStart => exact ⟨0, Nat.zero_le _, rfl, World.ownsRow_nil _ _ _ _, Below.refl _ _⟩
  case round =>
    obtain ⟨k, hk, rfl, hown, hB⟩ := hrel
    by_cases hlt : k < n
    · obtain ⟨b, off, x, rfl, hx, hb, hc⟩ := (H.below hB).at Ent.len (by rw [← Hn.out]; exact hlt)
      have Hx := Lib.hid hx
      have q0 : wr.cell? ⟨b, off + k * 3, none⟩ = some (.int .i64 x.f) := hc 0 (by omega)
      have q1 : wr.cell? ⟨b, off + k * 3 + 1, none⟩ = some (.int .i64 x.t) := hc 1 (by omega)
      have q2 : wr.cell? ⟨b, off + k * 3 + 2, none⟩ = some (.string x.c) := hc 2 (by omega)
      have htk : (l.map fun x => Value.string (f x)).take (k + 1) = (l.map fun x => Value.string (f x)).take k ++ [Value.string (f x)] := by rw [List.take_succ, List.getElem?_map, hx]; simp
      have HTK := Lib.hid htk
      clear hc hx htk
      go_wp2_with fail
      refine (Hcl.out _ x (List.mem_of_getElem? Hx.out) (hB.alloc hB.size _)).mono ?_
      rintro e w2 ⟨rfl, hb2⟩
      have hown2 := own_below (hown.alloc (Obj.cells #[.int .i64 x.f, .int .i64 x.t, .string x.c] 134)) hb2
      have hB2 := (hB.alloc hB.size (Obj.cells #[.int .i64 x.f, .int .i64 x.t, .string x.c] 134)).call hb2 rfl
      have hsz := hB2.size
      go_wp2_with (at_builtin; refine wpList_append_own _ rfl _ _ 88 rfl w.heap.size 9 i0 (.string ByteArray.empty) 1 16 Tryz.underlying88 hi hz0 hz1 hz2 rfl (by decide) _ _ _ rfl (hown2.alloc _) ⟨w2.heap.size, 0, none⟩ 1 1 [.string (f x)] rfl rfl ?c1 ?c2 ?c3 ?c4 ?c5 ?_)
      case c1 => exact news_one _ _ rfl
      case c2 => intro x hx; simp at hx; subst hx; rfl
      case c3 => unfold maxLen; omega
      case c4 => omega
      case c5 => simp; omega
      intro x' w3 hown3 hg3 _
      have hB3 : Below w.heap.size w w3 := (hB2.alloc hsz _).grown hg3 (by simp; omega) (fun g hg => (hown2.lt g hg).1)
      rw [← HTK.out] at hown3
      have HO := Lib.hid hown3
      clear hown3 hg3 hown2 hown
      go_wp2
      go_roundw
      case rel => exact ⟨k + 1, by omega, by go_num, HO.out, hB3⟩
      case measure => simp [intOf]; omega
    · obtain rfl : k = n := by omega
      rw [List.take_of_length_le (by rw [List.length_map, ← Hn.out]; exact Nat.le_refl _)] at hown
      have HO := Lib.hid hown
      clear hown
      go_wp2
      go_ret
      exact ⟨_, rfl, HO.out, hB⟩

/-- the text of entries -/
def Mo.printV (l : List Ent) : ByteArray := ⟨(Lib.join ((l.map Mo.prLine).map (·.data.toList)) []).toArray⟩
theorem Mo.line3_size (a b c : ByteArray) : (Mo.line3 a b c).size = a.size + b.size + c.size + 3 := by
  unfold Mo.line3
  simp only [ByteArray.size_append]
  show a.size + 1 + b.size + 1 + c.size + 1 = _
  omega
theorem joinTail_len (r : List (List UInt8)) (m : Nat) (h : ∀ x ∈ r, x.length ≤ m) : (Lib.joinTail [] r).length ≤ r.length * m := by
  induction r with
  | nil => simp [Lib.joinTail]
  | cons x r ih =>
    have h1 := ih (fun y hy => h y (List.mem_cons_of_mem _ hy))
    have h2 := h x (List.mem_cons_self ..)
    simp only [Lib.joinTail, List.map_cons, List.flatten_cons, List.length_append, List.nil_append, List.length_cons] at h1 ⊢
    rw [Nat.add_mul]; omega
theorem join_len (r : List (List UInt8)) (m : Nat) (h : ∀ x ∈ r, x.length ≤ m) : (Lib.join r []).length ≤ r.length * m := by
  cases r with
  | nil => simp [Lib.join_nil]
  | cons x r =>
    rw [Lib.join_cons, List.length_append]
    have h1 := joinTail_len r m (fun y hy => h y (List.mem_cons_of_mem _ hy))
    have h2 := h x (List.mem_cons_self ..)
    rw [List.length_cons, Nat.add_mul]; omega
/-- what Print gives -/
theorem c76 (A : Option Addr) (cap : Nat) (l : List Ent) (w : World) (hlen : l.length ≤ 1000000) (hsz : ∀ e ∈ l, e.c.size ≤ 1000000) (hio : Mo.entries l = 0 → ∀ e ∈ l, ItoaOk w e.f ∧ ItoaOk w e.t) (H : RdL w 3 Ent.enc A l) :
    Calls Tryz.prog 76 #[.slice A l.length cap] w fun en w' => en = .returned (.tuple #[.string (if Mo.entries l = 0 then Mo.printV l else ByteArray.empty), .int .i64 (Mo.entries l)]) ∧ Below w.heap.size w w' := by
  have HC := Lib.hid (c62 A cap l w hlen hsz H)
  by_cases h0 : Mo.entries l = 0
  · rw [if_pos h0]
    rw [h0] at HC ⊢
    obtain ⟨ho1, ho2, _⟩ := Mo.entries_ok h0
    replace hio := hio h0
    have HM : ∀ w1, Below w.heap.size w w1 → Hid (Calls Tryz.prog 135 #[.slice A l.length cap, .func (.func 136) #[] #[]] w1 fun en w' => ∃ x, en = .returned x ∧ w'.ownsRow w1.heap.size 9 1 x l.length (l.map fun x => .string (Mo.prLine x)) ∧ Below w1.heap.size w1 w') := fun w1 hb1 =>
      Lib.hid (c135 A cap l Mo.prLine w1 hlen (H.below hb1) (fun W x hx hW => c136 x W (hsz x hx) ((hio x hx).1.below (hb1.call hW rfl)) ((hio x hx).2.below (hb1.call hW rfl))))
    have HJ : ∀ w2 x, w2.ownsRow w.heap.size 9 1 x l.length (l.map fun x => .string (Mo.prLine x)) → Hid (Calls Tryz.prog 134 #[x, .string { data := #[] }] w2 fun en w' => en = .returned (.string (Mo.printV l)) ∧ Below w2.heap.size w2 w') := by
      intro w2 x hown
      show Calls _ _ _ _ _
      obtain ⟨hx, ⟨rfl, h0⟩ | ⟨g, cp, cur, rfl, hg, hh, hn, hc, hs, ht⟩⟩ := hown
      · obtain rfl : l = [] := List.eq_nil_of_length_eq_zero h0
        refine (Tryz.strings_Join_none none 0 { data := #[] } w2).mono ?_
        rintro e w' ⟨rfl, rfl⟩
        exact ⟨rfl, Below.refl _ _⟩
      · have := Tryz.strings_Join g 0 cp (l.map Mo.prLine) { data := #[] } w2 ?_ (Array.getElem?_eq_some_iff.1 hh).1 (by rw [List.length_map]; omega) (by rw [List.length_map]; omega) ?_
        · rw [List.length_map] at this
          exact this
        · intro j y hy
          have hy2 : (l.map fun x => Value.string (Mo.prLine x))[j]? = some (.string y) := by
            rw [List.getElem?_map] at hy ⊢
            cases hq : l[j]? with
            | none => rw [hq] at hy; simp at hy
            | some q => rw [hq] at hy; simp at hy; simp [hy]
          rw [← ht] at hy2
          have hj : j < l.length * 1 := by
            have := List.getElem?_eq_some_iff.1 hy2
            obtain ⟨h, _⟩ := this
            rw [List.length_take] at h; omega
          rw [List.getElem?_take_of_lt hj, Array.getElem?_toList] at hy2
          rw [Nat.zero_add]
          exact cell_at hh hy2
        · refine Nat.le_trans (join_len _ 1000100 ?_) ?_
          · intro x hx
            simp only [List.mem_map] at hx
            obtain ⟨y, ⟨e, he, rfl⟩, rfl⟩ := hx
            have h3 := Mo.line3_size ⟨(Lib.itoa e.f).toArray⟩ ⟨(Lib.itoa e.t).toArray⟩ e.c
            have h4 : (Mo.prLine e).data.toList.length = (Mo.prLine e).size := by rw [Array.length_toList]; rfl
            rw [h4]
            unfold Mo.prLine
            rw [h3]
            have h5 := (hio e he).1.1
            have h6 := (hio e he).2.1
            have h7 := hsz e he
            rw [ByteArray.size_mk', ByteArray.size_mk', List.size_toArray, List.size_toArray]
            omega
          · simp only [List.length_map]; omega
    clear hio
    go_enter Tryz.func76, Tryz.ntmps76
    go_wp2_with fail
    refine HC.out.mono ?_
    rintro e w1 ⟨rfl, hb1⟩
    go_wp2_with fail
    refine (HM w1 hb1).out.mono ?_
    rintro e w2 ⟨x, rfl, hx, hb2⟩
    have hB2 := hb1.call hb2 rfl
    go_wp2_with fail
    refine (HJ w2 x (own_base hx hb1.size)).out.mono ?_
    rintro e w3 ⟨rfl, hb3⟩
    go_wp2
    go_ret2
    exact ⟨rfl, hB2.call hb3 rfl⟩
  · have hE := Lib.hid h0
    rw [if_neg h0]
    obtain ⟨m, hm⟩ : ∃ m, m = Mo.entries l := ⟨_, rfl⟩
    rw [← hm] at h0 HC ⊢
    clear hm
    go_enter Tryz.func76, Tryz.ntmps76
    go_wp2_with fail
    refine HC.out.mono ?_
    rintro e w1 ⟨rfl, hb1⟩
    go_wp2
    go_ret2
    exact ⟨rfl, hb1⟩

end Go.Proofs.YtndhjkammoeikaaGreatDoor
namespace Go.Proofs.YtndhjkammoeikaaGreatDoor
open Go.RowKit
set_option maxRecDepth 100000
namespace Aw
def v : Ves := ⟨0, 0, 10, 0, 12⟩
def u : Wat := ⟨30, 5, 2, 3, 2⟩
def l : List Sgt := [⟨2, 40, 0⟩]
def sh : List Spn := [⟨0, 11⟩, ⟨11, 20⟩]
def es : List Ent := [⟨0, 8, { data := #[97, 110, 105, 109, 97, 108] }⟩, ⟨8, 9, { data := #[115, 104, 111, 111, 116] }⟩, ⟨9, 10, { data := #[119, 101, 97, 116, 104, 101, 114] }⟩, ⟨10, 12, { data := #[115, 104, 111, 111, 116] }⟩]
def con (n : Int) : Con := ⟨fun k => match k with | 0 => 100 | 1 => 50 | 2 => 20 | 3 => 10 | 4 => -30 | _ => 5, n, 500, 200⟩
def rs : List Res := [⟨⟨#[97]⟩, 3, 3⟩, ⟨⟨#[98]⟩, 2, 3⟩]
theorem a1 : Mo.all v u l = 0 := by decide +kernel
theorem a2 : Mo.all v u [] = 0 := by decide +kernel
theorem a3 : (Mo.insides v u l).length = 12 ∧ (Mo.insides v u l)[1]? = some false ∧ (Mo.insides v u l)[2]? = some true ∧ (Mo.insides v u l)[3]? = some true ∧ (Mo.insides v u l)[4]? = some true ∧ (Mo.insides v u l)[5]? = some false := by decide +kernel
theorem a4 : Mo.levels v u l = [0,0,0,0,0,0,0,0,1,2,3,3] := by decide +kernel
theorem a5 : Mo.levels v u [] = [0,0,0,1,2,3,3,3,3,3,3,3] := by decide +kernel
theorem a6 : (Mo.runs (fun (t : Nat) => Mo.level v u l t == 0) v.n.toNat).flatMap Spn.enc = Spn.enc ⟨0, 8⟩ := by rfl
theorem a7 : Mo.winE v u l [⟨0, 11⟩] 1 = 0 ∧ (Mo.findW (Mo.runs (Mo.winP v u l [⟨0, 11⟩]) v.n.toNat) 1) = (10, 0) := by decide +kernel
theorem a8 : Mo.winE v u l [⟨0, 11⟩] 2 = 0 ∧ (Mo.findW (Mo.runs (Mo.winP v u l [⟨0, 11⟩]) v.n.toNat) 2).2 = 7 := by decide +kernel
theorem a9 : Mo.winE v u l sh 2 = 0 ∧ (Mo.findW (Mo.runs (Mo.winP v u l sh) v.n.toNat) 2) = (10, 0) := by decide +kernel
theorem a10 : Mo.fires v u l [⟨9, 2⟩] = 0 ∧ Mo.fires v u l [⟨9, 3⟩] = 21 ∧ Mo.fires v u l [⟨4, 1⟩] = 31 := by decide +kernel
theorem a11 : Mo.diary v u l sh [⟨9, 10⟩] = (es, 0) := by kernel_rfl
theorem a12 : Mo.entries es = 0 ∧ Mo.downE es = 0 ∧ Mo.bill (con 0) es rs = 0 ∧ Mo.bill (con 1) es rs = 0 := by decide +kernel
theorem a13 : hoursV es = .agg #[.int .i64 3, .int .i64 0, .int .i64 1, .int .i64 8, .int .i64 0, .int .i64 0] := by kernel_rfl
theorem a14 : Mo.downV es = .agg #[.int .i64 3, .int .i64 4] := by kernel_rfl
theorem a15 : (Mo.billV (con 0) es rs).arr = #[.int .i64 300, .int .i64 0, .int .i64 20, .int .i64 80, .int .i64 0, .int .i64 0, .int .i64 300, .int .i64 700] := by kernel_rfl
theorem a16 : (Mo.billV (con 1) es rs).arr = #[.int .i64 300, .int .i64 0, .int .i64 0, .int .i64 80, .int .i64 0, .int .i64 0, .int .i64 300, .int .i64 680] := by kernel_rfl
theorem a17 : Mo.diffs (Mo.billV (con 0) es rs) (Mo.billV (con 1) es rs) = [{ data := #[119, 101, 97, 116, 104, 101, 114] }, { data := #[116, 111, 116, 97, 108] }] := by kernel_rfl
theorem a18 : Mo.entries [⟨0, 8, { data := #[97, 110, 105, 109, 97, 108] }⟩] = 0 := by decide +kernel
theorem a19 : Mo.printV [⟨0, 8, { data := #[97, 110, 105, 109, 97, 108] }⟩] = { data := #[48, 32, 56, 32, 97, 110, 105, 109, 97, 108, 10] } := by kernel_rfl
end Aw
end Go.Proofs.YtndhjkammoeikaaGreatDoor
