/- A part of the proofs about chapter 9: contracts of functions and plain laws (W18, W19, W20, W21, Model8, W22, Base4, W23, W24). -/
import Derived.Deep.AppendLies
import Derived.Test.YtndhjkammoeikaaGreatDoorA03
import Derived.Test.YtndhjkammoeikaaGreatDoorA02
set_option linter.all false
namespace Go.Proofs.YtndhjkammoeikaaGreatDoor
open Go.RowKit
set_option maxHeartbeats 1000000
set_option maxRecDepth 20000

theorem c102 (n : Int) (fs : List Fir) (pb k : Nat) (f : Fir) (w : World) (hpb : pb < w.heap.size) (hp : w.cell? ⟨pb, 4, none⟩ = some (.int .i64 n)) (hk : fs[k]? = some f) :
    Calls Tryz.prog 102 #[.int .i64 k, .agg #[.int .i64 f.t, .int .i64 f.v], .pointer (some ⟨pb, 0, none⟩)] w fun en w' => en = .returned (.int .i64 (Mo.fire1 n fs k)) ∧ Below w.heap.size w w' := by
  have hfin : Hid (Mo.fire1 n fs k = Mo.first [Mo.range f.t 0 (RowKit.wrap64 (n - 1)), Mo.range f.v 1 1001]) := by show _ = _; unfold Mo.fire1; rw [hk]
  clear hk
  obtain ⟨W, hW⟩ : ∃ W, W = w.alloc (Obj.cells #[.int .i64 f.t, .int .i64 f.v] 98) := ⟨_, rfl⟩
  have hT0 : W.heap[w.heap.size]? = some (.cells #[.int .i64 f.t, .int .i64 f.v] 98 (0, 0)) := by rw [hW]; exact heap_new (by simp)
  have h0_0 : W.cell? ⟨w.heap.size, 0, none⟩ = some (.int .i64 f.t) := cell_at hT0 rfl
  have h0_1 : W.cell? ⟨w.heap.size, 1, none⟩ = some (.int .i64 f.v) := cell_at hT0 rfl
  have hs : w.heap.size + 1 = W.heap.size := by rw [hW]; simp
  have hB : Below w.heap.size w W := by rw [hW]; exact ((Below.refl _ _).alloc (by first | omega | (simp <;> omega)) _)
  have hkp : W.cell? ⟨pb, 4, none⟩ = some (.int .i64 n) := by rw [hW, World.cell?_alloc_lt _ _ _ hpb]; exact hp
  have hs0 : w.heap.size < W.heap.size := by omega
  have hpW : pb < W.heap.size := by omega
  have HS := Lib.hid hs
  clear hs hp hT0
  go_enter Tryz.func102, Tryz.ntmps102
  go_wp2
  rw [← hW]
  clear hW
  refine wp_region_splitG 9 (by kernel_rfl) (by kernel_rfl) ?_
  simp only [List.take_succ_cons, List.take_zero, List.drop_succ_cons, List.drop_zero]
  repeat (go_big_quiet_step ((first | (go_at_call 96; exact Calls.gw_same (c96 _ _ _ _)))))
  refine wpQuiet_nil (gw_out ?_)
  intro w1 hb1
  go_wp2_with (first | (go_at_call 94; refine (c94 _ 2 _ [Mo.range f.t 0 (RowKit.wrap64 (n - 1)), Mo.range f.v 1 1001] _ rfl (by omega) ?_).mono ?_; (first | exact RdS.of_new (by simp) rfl | exact RdS.drew (RdS.of_new (by simp) rfl)); rintro e w' ⟨rfl, rfl⟩))
  go_ret
  exact ⟨ret_int hfin.out.symm, fin1 hB hb1 _⟩

theorem c104 (v : Ves) (u : Wat) (A : Option Addr) (n cap : Nat) (l : List Sgt) (f : Fir) (g : Nat) (pb pl : Nat) (w : World) (hn : n = l.length) (hv : VOk v) (hu : WOk u) (hl : l.length ≤ 64 ∧ ∀ s ∈ l, SOk s) (hf : 0 ≤ f.t ∧ f.t ≤ v.n - 1) (H : RdL w 3 Sgt.enc A l)
    (hpb : pb < w.heap.size) (hpl : pl < w.heap.size) (hg : g < w.heap.size) (hb0 : w.cell? ⟨pb, 0, none⟩ = some (.int .i64 u.ring)) (hb1 : w.cell? ⟨pb, 1, none⟩ = some (.int .i64 u.speed)) (hb2 : w.cell? ⟨pb, 2, none⟩ = some (.int .i64 u.loss)) (hb3 : w.cell? ⟨pb, 3, none⟩ = some (.int .i64 u.clear)) (hb4 : w.cell? ⟨pb, 4, none⟩ = some (.int .i64 u.soft)) (hb5 : w.cell? ⟨pb, 5, none⟩ = some (.int .i64 v.sx)) (hb6 : w.cell? ⟨pb, 6, none⟩ = some (.int .i64 v.sy)) (hb7 : w.cell? ⟨pb, 7, none⟩ = some (.int .i64 v.dx)) (hb8 : w.cell? ⟨pb, 8, none⟩ = some (.int .i64 v.dy)) (hb9 : w.cell? ⟨pb, 9, none⟩ = some (.int .i64 v.n)) (hb10 : w.cell? ⟨pb, 10, none⟩ = some (.slice A n cap))
    (hll : w.cell? ⟨pl, 0, none⟩ = some (.slice (some ⟨g, 0, none⟩) v.n.toNat v.n.toNat)) (hgg : w.heap[g]? = some (.cells ((Mo.levels v u l).map (Value.int .i64)).toArray 3 (0, 0))) :
    Calls Tryz.prog 104 #[.agg #[.int .i64 f.t, .int .i64 f.v], .pointer (some ⟨pl, 0, none⟩), .pointer (some ⟨pb, 0, none⟩)] w fun en w' => en = .returned (.int .i64 (Mo.fire2 v u l f)) ∧ Below w.heap.size w w' := by
  have hvn := hv.n
  obtain ⟨t, ht⟩ : ∃ t : Nat, f.t = t := ⟨f.t.toNat, by omega⟩
  obtain ⟨N, hN⟩ : ∃ N : Nat, v.n.toNat = N := ⟨_, rfl⟩
  have htN : t < N := by omega
  have hlev : w.cell? ⟨g, t, none⟩ = some (.int .i64 (Mo.level v u l t)) := cell_at hgg (by simp [Mo.levels, hN, htN])
  have hfin : Hid (Mo.fire2 v u l f = Mo.when (decide (Mo.level v u l t < f.v)) (Mo.first [Mo.when (Mo.inside v u l t) 31, 21])) := by show _ = _; unfold Mo.fire2; rw [ht]; rfl
  rw [ht]
  rw [hN] at hll
  have HC := fun W (hW : Below w.heap.size w W) => Lib.hid (c88 v u A cap l t W hv hu hl (by omega) (H.below hW))
  rw [← hn] at HC
  clear hgg H hl hN hn
  obtain ⟨W, hW⟩ : ∃ W, W = w.alloc (Obj.cells #[.int .i64 t, .int .i64 f.v] 98) := ⟨_, rfl⟩
  have hT0 : W.heap[w.heap.size]? = some (.cells #[.int .i64 t, .int .i64 f.v] 98 (0, 0)) := by rw [hW]; exact heap_new (by simp)
  have h0_0 : W.cell? ⟨w.heap.size, 0, none⟩ = some (.int .i64 t) := cell_at hT0 rfl
  have h0_1 : W.cell? ⟨w.heap.size, 1, none⟩ = some (.int .i64 f.v) := cell_at hT0 rfl
  have hs : w.heap.size + 1 = W.heap.size := by rw [hW]; simp
  have hB : Below w.heap.size w W := by rw [hW]; exact ((Below.refl _ _).alloc (by first | omega | (simp <;> omega)) _)
  have hq0 : W.cell? ⟨pb, 0, none⟩ = some (.int .i64 u.ring) := by rw [hW, World.cell?_alloc_lt _ _ _ hpb]; exact hb0
  have hq1 : W.cell? ⟨pb, 1, none⟩ = some (.int .i64 u.speed) := by rw [hW, World.cell?_alloc_lt _ _ _ hpb]; exact hb1
  have hq2 : W.cell? ⟨pb, 2, none⟩ = some (.int .i64 u.loss) := by rw [hW, World.cell?_alloc_lt _ _ _ hpb]; exact hb2
  have hq3 : W.cell? ⟨pb, 3, none⟩ = some (.int .i64 u.clear) := by rw [hW, World.cell?_alloc_lt _ _ _ hpb]; exact hb3
  have hq4 : W.cell? ⟨pb, 4, none⟩ = some (.int .i64 u.soft) := by rw [hW, World.cell?_alloc_lt _ _ _ hpb]; exact hb4
  have hq5 : W.cell? ⟨pb, 5, none⟩ = some (.int .i64 v.sx) := by rw [hW, World.cell?_alloc_lt _ _ _ hpb]; exact hb5
  have hq6 : W.cell? ⟨pb, 6, none⟩ = some (.int .i64 v.sy) := by rw [hW, World.cell?_alloc_lt _ _ _ hpb]; exact hb6
  have hq7 : W.cell? ⟨pb, 7, none⟩ = some (.int .i64 v.dx) := by rw [hW, World.cell?_alloc_lt _ _ _ hpb]; exact hb7
  have hq8 : W.cell? ⟨pb, 8, none⟩ = some (.int .i64 v.dy) := by rw [hW, World.cell?_alloc_lt _ _ _ hpb]; exact hb8
  have hq9 : W.cell? ⟨pb, 9, none⟩ = some (.int .i64 v.n) := by rw [hW, World.cell?_alloc_lt _ _ _ hpb]; exact hb9
  have hq10 : W.cell? ⟨pb, 10, none⟩ = some (.slice A n cap) := by rw [hW, World.cell?_alloc_lt _ _ _ hpb]; exact hb10
  have hq11 : W.cell? ⟨pl, 0, none⟩ = some (.slice (some ⟨g, 0, none⟩) N N) := by rw [hW, World.cell?_alloc_lt _ _ _ hpl]; exact hll
  have hq12 : W.cell? ⟨g, t, none⟩ = some (.int .i64 (Mo.level v u l t)) := by rw [hW, World.cell?_alloc_lt _ _ _ hg]; exact hlev
  have hs0 : w.heap.size < W.heap.size := by omega
  have hpbW : pb < W.heap.size := by omega
  have hplW : pl < W.heap.size := by omega
  have hgW : g < W.heap.size := by omega
  have hx1 : (0 : Int) ≤ (t : Int) := by omega
  have hx2 : (t : Int) < (N : Int) := by omega
  have HS := Lib.hid hs
  have HT := Lib.hid ht
  clear hs hll hlev hT0 ht hb0 hb1 hb2 hb3 hb4 hb5 hb6 hb7 hb8 hb9 hb10
  go_enter Tryz.func104, Tryz.ntmps104
  go_wp2
  rw [← hW]
  clear hW
  refine wp_region_float 13 (W.heap.size) (by kernel_rfl) (by kernel_rfl) (by omega) (fun _ _ d _ _ h => by cases d <;> exact h) ?_
  simp only [List.take_succ_cons, List.take_zero, List.drop_succ_cons, List.drop_zero]
  repeat (first | (refine wpSoft_skip (by rfl) ?_; simp only [Act.put, List.setIfInBounds_toArray, List.set_cons_zero, List.set_cons_succ]) | (refine wpSoft_step ?_ (by rfl) ?_ ?_; rotate_left; (intro wq hq hcq; go_simp; first | exact rfl | exact ⟨rfl, rfl⟩ | (exact (HC _ (hB.call hq rfl)).out) | (refine Calls.soft_same ?_; exact c100 _ _ _)); simp only [Act.put, List.setIfInBounds_toArray, List.set_cons_zero, List.set_cons_succ]))
  intro w1 hb1
  refine wpRest_step (by rfl) (fun K hK => ?_)
  go_simp
  have hal := hb1.alloc hb1.size (Obj.cells #[.int .i64 (Mo.when (Mo.inside v u l t) 31), .int .i64 21] 32)
  refine hK _ _ hal ?_
  clear hK K
  intro w2 hg2
  have hb2 := hal.call hg2 rfl
  have hR := (RdS.of_new (w := w1) (g := w1.heap.size) (size := 1) (n := 2) (cs := encI [Mo.when (Mo.inside v u l t) 31, 21]) (t := 32) (f := (0, 0)) rfl rfl).below hg2
  clear hal hg2
  refine wpRest_step (by rfl) (fun K hK => ?_)
  go_simp
  refine (c94 _ 2 _ [Mo.when (Mo.inside v u l t) 31, 21] _ rfl (by omega) hR).mono ?_
  rintro e w' ⟨rfl, rfl⟩
  refine hK _ _ hb2 ?_
  clear hK K
  intro w3 hg3
  have hb3 := hb2.call hg3 rfl
  clear hg3
  refine wpRest_step (by rfl) (fun K hK => ?_)
  go_simp
  refine (c100 _ _ _).mono ?_
  rintro e w' ⟨rfl, rfl⟩
  refine hK _ _ hb3 ?_
  clear hK K
  intro w4 hg4
  have hb4 := hb3.call hg4 rfl
  clear hg4
  refine wpRest_step (by rfl) (fun K hK => ?_)
  go_simp
  refine hK _ _ hb4 ?_
  clear hK K
  intro w5 hg5
  have hb5 := hb4.call hg5 rfl
  clear hg5
  show Exit.then _ _ _ _ _
  simp only [Exit.then]
  go_wp2
  go_ret
  exact ⟨ret_int hfin.out.symm, fin0 hB hb5⟩

end Go.Proofs.YtndhjkammoeikaaGreatDoor
namespace Go.Proofs.YtndhjkammoeikaaGreatDoor
open Go.RowKit
set_option maxHeartbeats 1000000
set_option maxRecDepth 20000

theorem info32 : (Tryz.prog.info? 32).map (fun i => (i.zero, i.size, i.bytes)) = some (some (.int .i64 0), 1, 8) := by kernel_rfl
theorem c103 (A : Option Addr) (cap : Nat) (l : List Fir) (p0 p1 : Addr) (f : Fir → Int) (w : World) (hl : l.length ≤ 1000000) (H : RdL w 2 Fir.enc A l)
   (hcl : ∀ (W : World) (x : Fir), x ∈ l → Below w.heap.size w W →
      Calls Tryz.prog 104 #[.agg #[.int .i64 x.t, .int .i64 x.v], .pointer (some p0), .pointer (some p1)] W fun e w' => e = .returned (Value.int .i64 (f x)) ∧ Below W.heap.size W w') :
   Calls Tryz.prog 103 #[.slice A l.length cap, .func (.func 104) #[] #[.pointer (some p0), .pointer (some p1)]] w fun en w' => ∃ x, en = .returned x ∧ Sl w' 1 x l.length (l.map fun x => Value.int .i64 (f x)) ∧ Below w.heap.size w w' := by
  obtain ⟨n, hn⟩ : ∃ n, n = l.length := ⟨_, rfl⟩
  rw [← hn] at hl ⊢
  have Hn := Lib.hid hn
  have Hcl := Lib.hid hcl
  clear hcl hn
  obtain ⟨i0, hi, hz0, hz1, hz2⟩ := info_parts info32
  go_enter Tryz.func103, Tryz.ntmps103
  go_wp2
  go_loopw [5, 10] (fun x i wr => ∃ k : Nat, k ≤ n ∧ i = .int .i64 k ∧ wr.ownsRow w.heap.size 32 1 x k ((l.map fun x => Value.int .i64 (f x)).take k) ∧ Below w.heap.size w wr) (fun _ i _ => n - (intOf i).toNat)
  case atStart => exact ⟨0, Nat.zero_le _, rfl, World.ownsRow_nil _ _ _ _, Below.refl _ _⟩
  case round =>
    obtain ⟨k, hk, rfl, hown, hB⟩ := hrel
    by_cases hlt : k < n
    · obtain ⟨b, off, x, rfl, hx, hb, hc⟩ := (H.below hB).at Fir.len (by rw [← Hn.out]; exact hlt)
      have Hx := Lib.hid hx
      have h0 : wr.cell? ⟨b, off + k * 2, none⟩ = some (.int .i64 x.t) := hc 0 (by omega)
      have h1 : wr.cell? ⟨b, off + k * 2 + 1, none⟩ = some (.int .i64 x.v) := hc 1 (by omega)
      have htk : (l.map fun x => Value.int .i64 (f x)).take (k + 1) = (l.map fun x => Value.int .i64 (f x)).take k ++ [Value.int .i64 (f x)] := by rw [List.take_succ, List.getElem?_map, hx]; simp
      have HTK := Lib.hid htk
      clear hc hx htk
      go_wp2_with fail
      refine (Hcl.out _ x (List.mem_of_getElem? Hx.out) (hB.alloc hB.size _)).mono ?_
      rintro e w2 ⟨rfl, hb2⟩
      have hown2 := own_below (hown.alloc (Obj.cells #[.int .i64 x.t, .int .i64 x.v] 98)) hb2
      have hB2 := (hB.alloc hB.size (Obj.cells #[.int .i64 x.t, .int .i64 x.v] 98)).call hb2 rfl
      have hsz := hB2.size
      go_wp2_with (at_builtin; refine wpList_append_own _ rfl _ _ 180 rfl w.heap.size 32 i0 (.int .i64 0) 1 8 Tryz.underlying180 hi hz0 hz1 hz2 rfl (by decide) _ _ _ rfl (hown2.alloc _) ⟨w2.heap.size, 0, none⟩ 1 1 [Value.int .i64 (f x)] rfl rfl ?c1 ?c2 ?c3 ?c4 ?c5 ?_)
      case c1 => exact news_one _ _ rfl
      case c2 => intro x hx; simp at hx; subst hx; rfl
      case c3 => unfold maxLen; omega
      case c4 => omega
      case c5 => simp; omega
      intro x' w3 hown3 hg3 _
      have hB3 : Below w.heap.size w w3 := (hB2.alloc hsz _).grown hg3 (by simp; omega) (fun g hg => (hown2.lt g hg).1)
      rw [← HTK.out] at hown3
      have HO := Lib.hid hown3
      clear hown3 hg3 hown2 hown
      go_wp2
      go_roundw
      case rel => exact ⟨k + 1, by omega, by go_num, HO.out, hB3⟩
      case measure => simp [intOf]; omega
    · obtain rfl : k = n := by omega
      rw [List.take_of_length_le (by rw [List.length_map, ← Hn.out]; exact Nat.le_refl _)] at hown
      have HO := Lib.hid hown
      clear hown
      go_wp2
      go_ret
      exact ⟨_, rfl, Sl.of_own HO.out, hB⟩

end Go.Proofs.YtndhjkammoeikaaGreatDoor
namespace Go.Proofs.YtndhjkammoeikaaGreatDoor
open Go.RowKit
set_option maxHeartbeats 1000000
set_option maxRecDepth 20000

theorem c34 (v : Ves) (u : Wat) (A : Option Addr) (cap : Nat) (l : List Sgt) (D : Option Addr) (dcap : Nat) (fs : List Fir) (w : World) (hl : l.length ≤ 1000000) (H : RdL w 3 Sgt.enc A l) (hfl : fs.length ≤ 1000000) (HF : RdL w 2 Fir.enc D fs) :
    Calls Tryz.prog 34 #[.agg #[.int .i64 v.sx, .int .i64 v.sy, .int .i64 v.dx, .int .i64 v.dy, .int .i64 v.n], .agg #[.int .i64 u.ring, .int .i64 u.speed, .int .i64 u.loss, .int .i64 u.clear, .int .i64 u.soft], .slice A l.length cap, .slice D fs.length dcap] w fun en w' => en = .returned (.int .i64 (Mo.fires v u l fs)) ∧ Below w.heap.size w w' := by
  have HC := fun W (hW : Below w.heap.size w W) => Lib.hid (c87 v u A cap l W hl (H.below hW))
  have HE := fun W (hW : Below w.heap.size w W) (hlt : w.heap.size < W.heap.size) (hc : W.cell? ⟨w.heap.size, 4, none⟩ = some (.int .i64 v.n)) =>
    Lib.hid (c101 D dcap fs 256 ⟨w.heap.size, 0, none⟩ (Mo.fire1 v.n fs) W (by omega) hfl (HF.below hW) (fun k W' x hx _ hb => c102 v.n fs w.heap.size k x W' (Nat.lt_of_lt_of_le hlt hb.size) (((bcell hb).1 _ _ hlt).trans hc) hx))
  obtain ⟨n, hn⟩ : ∃ n, n = l.length := ⟨_, rfl⟩
  obtain ⟨m, hm⟩ : ∃ m, m = fs.length := ⟨_, rfl⟩
  rw [← hn] at HC
  rw [← hm] at HE
  have hne0 : Hid (Mo.first [Mo.all v u l, Mo.each fs.length 256 (Mo.fire1 v.n fs)] ≠ 0 → Mo.fires v u l fs = Mo.first [Mo.all v u l, Mo.each fs.length 256 (Mo.fire1 v.n fs)]) := fun h => by unfold Mo.fires; rw [if_pos h]
  have heq0 : Hid (Mo.first [Mo.all v u l, Mo.each fs.length 256 (Mo.fire1 v.n fs)] = 0 → Mo.fires v u l fs = Mo.first (fs.map (Mo.fire2 v u l))) := fun h => by unfold Mo.fires; rw [if_neg (by simpa using h)]
  by_cases hz : Mo.first [Mo.all v u l, Mo.each fs.length 256 (Mo.fire1 v.n fs)] = 0
  · have hall : Mo.all v u l = 0 := Mo.first_zero hz _ (by simp)
    have heach : Mo.each fs.length 256 (Mo.fire1 v.n fs) = 0 := Mo.first_zero hz _ (by simp)
    obtain ⟨hv, hu, hlen, hso⟩ := Mo.all_ok hall
    obtain ⟨hf1, hf2⟩ := Mo.fires_ok hv heach
    have hvn := hv.n
    have HL := fun W (hW : Below w.heap.size w W) => Lib.hid (c89 v u A cap l W (H.below hW) hall)
    have HM := fun W (pl pb g : Nat) (hW : Below w.heap.size w W) => c103 D dcap fs ⟨pl, 0, none⟩ ⟨pb, 0, none⟩ (Mo.fire2 v u l) W hfl (HF.below hW)
    have H4 := fun W' (hW : Below w.heap.size w W') (f : Fir) (hf : f ∈ fs) (g pb pl : Nat) => c104 v u A l.length cap l f g pb pl W' rfl hv hu ⟨hlen, hso⟩ (hf2 f hf).1 (H.below hW)
    have Hfin := Lib.hid (heq0.out hz)
    have HM' := Lib.hid HM
    have H4' := Lib.hid H4
    have Hf1 : fs.length ≤ 256 := hf1
    rw [hall, heach] at hz
    have heach' : Mo.each m 256 (Mo.fire1 v.n fs) = 0 := by rw [hm]; exact heach
    simp only [hall] at HC
    simp only [heach'] at HE
    clear heach'
    rw [← hn] at HL
    rw [← hm]
    clear HM H4 hf2 hso hv hu hne0 heq0 H HF hl
    have hN : ∃ N : Nat, v.n.toNat = N ∧ 1 ≤ N ∧ N ≤ 4096 := ⟨_, rfl, by omega, by omega⟩
    obtain ⟨N, hN, hN1⟩ := hN
    have HNN := Lib.hid hN
    have Hn := Lib.hid hn
    have Hm := Lib.hid hm
    have Hall := Lib.hid hall
    rw [← hn]
    clear hn hm hall heach hN hz hvn
    go_enter Tryz.func34, Tryz.ntmps34
    go_wp2_with fail
    refine (HC _ ?_).out.mono ?_
    · exact (((Below.refl _ _).alloc (by first | omega | (simp <;> omega)) _).alloc (by first | omega | (simp <;> omega)) _)
    rintro e w1 ⟨rfl, hb1⟩
    obtain ⟨hc1, hf1, hc2, hf2⟩ := bgrow hb1
    have hz0 : w.heap.size < w1.heap.size := by have := hb1.size; simp at this; omega
    have hB1 := (((Below.refl _ _).alloc (by first | omega | (simp <;> omega)) _).alloc (by first | omega | (simp <;> omega)) _).call hb1 rfl
    have hB2 := hB1.alloc hB1.size (Obj.cells #[.int .i64 u.ring, .int .i64 u.speed, .int .i64 u.loss, .int .i64 u.clear, .int .i64 u.soft, .int .i64 v.sx, .int .i64 v.sy, .int .i64 v.dx, .int .i64 v.dy, .int .i64 v.n, .slice A n cap] 162)
    go_wp2_with fail
    refine (HE _ ?_ ?_ ?_).out.mono ?_
    · exact hB2
    · simp; omega
    · rw [hc2 _ _ _ hz0, hc1 _ _ (by simp; omega)]; simp
    rintro e w2 ⟨rfl, hb2⟩
    have hgb2 : w2.heap[w1.heap.size]? = some (.cells #[.int .i64 u.ring, .int .i64 u.speed, .int .i64 u.loss, .int .i64 u.clear, .int .i64 u.soft, .int .i64 v.sx, .int .i64 v.sy, .int .i64 v.dx, .int .i64 v.dy, .int .i64 v.n, .slice A n cap] 162 (0, 0)) := (hb2.block _ (by simp)).trans (heap_new rfl)
    have hB3 := hB2.call hb2 rfl
    have hz2 : w1.heap.size < w2.heap.size := by have := hb2.size; simp at this; omega
    have HGB2 := Lib.hid hgb2
    clear hgb2 hc1 hf1 hc2 hf2 hb2 HE HC
    have hR : RdS (w2.alloc (Obj.cells #[.int .i64 0, .int .i64 0] 32)) 1 (some ⟨w2.heap.size, 0, none⟩) 2 (encI [0, 0]) := RdS.of_new rfl rfl
    have hz' : Mo.first [0, 0] = 0 := rfl
    go_wp2_with fail
    refine (c94 _ 2 _ [0, 0] _ rfl (by omega) hR).mono ?_
    rintro e w3 ⟨rfl, rfl⟩
    have hB4 := hB3.alloc hB3.size (Obj.cells #[.int .i64 0, .int .i64 0] 32)
    have hgb4 : (w2.alloc (Obj.cells #[.int .i64 0, .int .i64 0] 32)).heap[w1.heap.size]? = some (.cells #[.int .i64 u.ring, .int .i64 u.speed, .int .i64 u.loss, .int .i64 u.clear, .int .i64 u.soft, .int .i64 v.sx, .int .i64 v.sy, .int .i64 v.dx, .int .i64 v.dy, .int .i64 v.n, .slice A n cap] 162 (0, 0)) := heap_old hz2 HGB2.out
    obtain ⟨W4, hW4⟩ : ∃ W4, W4 = w2.alloc (Obj.cells #[.int .i64 0, .int .i64 0] 32) := ⟨_, rfl⟩
    rw [← hW4] at hB4 hgb4 ⊢
    have HGB4 := Lib.hid hgb4
    rw [hz']
    clear hgb4 hW4 hR HGB2 hz'
    have q0 := cell_at (i := 0) HGB4.out rfl
    have q1 := cell_at (i := 1) HGB4.out rfl
    have q2 := cell_at (i := 2) HGB4.out rfl
    have q3 := cell_at (i := 3) HGB4.out rfl
    have q4 := cell_at (i := 4) HGB4.out rfl
    have q5 := cell_at (i := 5) HGB4.out rfl
    have q6 := cell_at (i := 6) HGB4.out rfl
    have q7 := cell_at (i := 7) HGB4.out rfl
    have q8 := cell_at (i := 8) HGB4.out rfl
    have q9 := cell_at (i := 9) HGB4.out rfl
    have q10 := cell_at (i := 10) HGB4.out rfl
    go_wp2_with fail
    refine (HL _ hB4).out.mono ?_
    rintro e w5 ⟨g, rfl, hg, hgl, hb5⟩
    have hgb5 := (hb5.block w1.heap.size (Array.getElem?_eq_some_iff.1 HGB4.out).1).trans HGB4.out
    have hB5 := hB4.call hb5 rfl
    have hg5 : g < w5.heap.size := (Array.getElem?_eq_some_iff.1 hg).1
    have hp5 : w1.heap.size < w5.heap.size := (Array.getElem?_eq_some_iff.1 hgb5).1
    have HG5 := Lib.hid (And.intro hgb5 hg)
    rw [HNN.out]
    clear q0 q1 q2 q3 q4 q5 q6 q7 q8 q9 q10 hg hgb5 HL HGB4 hb5
    go_wp2_with fail
    have hB6 := hB5.alloc hB5.size (Obj.cells #[.slice (some ⟨g, 0, none⟩) N N] 39)
    rw [Hm.out]
    refine (HM'.out _ w5.heap.size w1.heap.size g hB6 ?_).mono ?_
    · intro W' x hx hW'
      have hsz := hW'.size
      simp at hsz
      have e1 : W'.heap[w1.heap.size]? = some (.cells #[.int .i64 u.ring, .int .i64 u.speed, .int .i64 u.loss, .int .i64 u.clear, .int .i64 u.soft, .int .i64 v.sx, .int .i64 v.sy, .int .i64 v.dx, .int .i64 v.dy, .int .i64 v.n, .slice A n cap] 162 (0, 0)) := (hW'.block _ (by simp; omega)).trans (heap_old hp5 HG5.out.1)
      have e2 : W'.heap[g]? = some (.cells ((Mo.levels v u l).map (Value.int .i64)).toArray 3 (0, 0)) := (hW'.block _ (by simp; omega)).trans (heap_old hg5 HG5.out.2)
      have e3 : W'.heap[w5.heap.size]? = some (.cells #[.slice (some ⟨g, 0, none⟩) N N] 39 (0, 0)) := (hW'.block _ (by simp)).trans (heap_new rfl)
      rw [Hn.out] at e1
      exact H4'.out W' (hB6.call hW' rfl) x hx g w1.heap.size w5.heap.size (by omega) (by omega) (by omega) (cell_at e1 rfl) (cell_at e1 rfl) (cell_at e1 rfl) (cell_at e1 rfl) (cell_at e1 rfl) (cell_at e1 rfl) (cell_at e1 rfl) (cell_at e1 rfl) (cell_at e1 rfl) (cell_at e1 rfl) (cell_at e1 rfl) (by rw [HNN.out]; exact cell_at e3 rfl) e2
    rintro e w6 ⟨x, rfl, hx, hb6⟩
    obtain ⟨A6, c6, rfl, hR6⟩ := hx
    have hB7 := hB6.call hb6 rfl
    rw [← Hm.out]
    rw [← Hm.out] at hR6 Hf1
    have HR6 := Lib.hid hR6
    clear hR6
    go_wp2_with fail
    refine (c94 A6 m c6 (fs.map (Mo.fire2 v u l)) _ (by rw [List.length_map]; exact Hm.out.symm) (by omega) ?_).mono ?_
    · have := HR6.out
      rwa [show (fs.map fun x => Value.int .i64 (Mo.fire2 v u l x)) = encI (fs.map (Mo.fire2 v u l)) by rw [encI, List.map_map]; rfl] at this
    rintro e w7 ⟨rfl, rfl⟩
    go_wp2
    go_ret
    exact ⟨ret_int Hfin.out.symm, hB7⟩
  · have hz' : (Mo.first [Mo.all v u l, Mo.each fs.length 256 (Mo.fire1 v.n fs)] != 0) = true := by simpa using hz
    have Hfin := Lib.hid (hne0.out hz)
    rw [← hm] at hz' Hfin ⊢
    rw [← hn]
    clear hne0 heq0 hz H HF hl hfl hm hn
    go_enter Tryz.func34, Tryz.ntmps34
    go_wp2_with fail
    refine (HC _ ?_).out.mono ?_
    · exact (((Below.refl _ _).alloc (by first | omega | (simp <;> omega)) _).alloc (by first | omega | (simp <;> omega)) _)
    rintro e w1 ⟨rfl, hb1⟩
    obtain ⟨hc1, hf1, hc2, hf2⟩ := bgrow hb1
    have hz0 : w.heap.size < w1.heap.size := by have := hb1.size; simp at this; omega
    have hB1 := (((Below.refl _ _).alloc (by first | omega | (simp <;> omega)) _).alloc (by first | omega | (simp <;> omega)) _).call hb1 rfl
    have hB2 := hB1.alloc hB1.size (Obj.cells #[.int .i64 u.ring, .int .i64 u.speed, .int .i64 u.loss, .int .i64 u.clear, .int .i64 u.soft, .int .i64 v.sx, .int .i64 v.sy, .int .i64 v.dx, .int .i64 v.dy, .int .i64 v.n, .slice A n cap] 162)
    go_wp2_with fail
    refine (HE _ ?_ ?_ ?_).out.mono ?_
    · exact hB2
    · simp; omega
    · rw [hc2 _ _ _ hz0, hc1 _ _ (by simp; omega)]; simp
    rintro e w2 ⟨rfl, hb2⟩
    have hB3 := hB2.call hb2 rfl
    clear hc1 hf1 hc2 hf2 hb2 HE HC
    go_wp2_with fail
    refine (c94 _ 2 _ [Mo.all v u l, Mo.each m 256 (Mo.fire1 v.n fs)] _ rfl (by omega) (RdS.of_new rfl rfl)).mono ?_
    rintro e w3 ⟨rfl, rfl⟩
    go_wp2
    go_ret
    exact ⟨ret_int Hfin.out.symm, hB3.alloc hB3.size _⟩

end Go.Proofs.YtndhjkammoeikaaGreatDoor
namespace Go.Proofs.YtndhjkammoeikaaGreatDoor
open Go.RowKit
set_option maxHeartbeats 1000000
set_option maxRecDepth 20000

theorem Mo.fire2_of (v : Ves) (u : Wat) (l : List Sgt) (f : Fir) (t : Nat) (ht : f.t = t) : (f.v ≤ Mo.level v u l t → Mo.fire2 v u l f = 0) ∧ (¬ f.v ≤ Mo.level v u l t → Mo.inside v u l t = true → Mo.fire2 v u l f = 31) ∧ (¬ f.v ≤ Mo.level v u l t → Mo.inside v u l t = false → Mo.fire2 v u l f = 21) := by
  unfold Mo.fire2
  rw [ht]
  refine ⟨fun h => ?_, fun h h2 => ?_, fun h h2 => ?_⟩
  · rw [show decide (Mo.level v u l (t : Int).toNat < f.v) = false by simp; omega]; rfl
  · rw [show decide (Mo.level v u l (t : Int).toNat < f.v) = true by simp; omega, h2]; rfl
  · rw [show decide (Mo.level v u l (t : Int).toNat < f.v) = true by simp; omega, h2]; rfl
theorem c36_bad (v : Ves) (u : Wat) (A : Option Addr) (cap : Nat) (l : List Sgt) (D : Option Addr) (dcap : Nat) (fs : List Fir) (w : World) (hl : l.length ≤ 1000000) (H : RdL w 3 Sgt.enc A l) (hbad : Mo.all v u l ≠ 0) :
    Calls Tryz.prog 36 #[.agg #[.int .i64 v.sx, .int .i64 v.sy, .int .i64 v.dx, .int .i64 v.dy, .int .i64 v.n], .agg #[.int .i64 u.ring, .int .i64 u.speed, .int .i64 u.loss, .int .i64 u.clear, .int .i64 u.soft], .slice A l.length cap, .slice D fs.length dcap] w fun en w' => en = .returned (.int .i64 (Mo.all v u l)) ∧ Below w.heap.size w w' := by
  have hb' : (Mo.all v u l != 0) = true := by simpa using hbad
  have HC := fun W (hW : Below w.heap.size w W) => Lib.hid (c20 v u A cap l W hl (H.below hW))
  clear H hbad
  go_enter Tryz.func36, Tryz.ntmps36
  go_wp2_with fail
  refine (HC _ ?_).out.mono ?_
  · exact (((Below.refl _ _).alloc (by first | omega | (simp <;> omega)) _).alloc (by first | omega | (simp <;> omega)) _)
  rintro e w1 ⟨rfl, hb1⟩
  have hB1 := (((Below.refl _ _).alloc (by first | omega | (simp <;> omega)) _).alloc (by first | omega | (simp <;> omega)) _).call hb1 rfl
  go_wp2
  go_ret
  exact ⟨rfl, hB1⟩
theorem c36_ok (v : Ves) (u : Wat) (A : Option Addr) (cap : Nat) (l : List Sgt) (D : Option Addr) (dcap : Nat) (fs : List Fir) (w : World) (H : RdL w 3 Sgt.enc A l) (hfl : fs.length ≤ 1000000) (HF : RdL w 2 Fir.enc D fs) (hall : Mo.all v u l = 0) :
    Calls Tryz.prog 36 #[.agg #[.int .i64 v.sx, .int .i64 v.sy, .int .i64 v.dx, .int .i64 v.dy, .int .i64 v.n], .agg #[.int .i64 u.ring, .int .i64 u.speed, .int .i64 u.loss, .int .i64 u.clear, .int .i64 u.soft], .slice A l.length cap, .slice D fs.length dcap] w fun en w' => en = .returned (.int .i64 (Mo.fires v u l fs)) ∧ Below w.heap.size w w' := by
  obtain ⟨hv, hu, hlen, hso⟩ := Mo.all_ok hall
  have hvn := hv.n
  have HC := fun W (hW : Below w.heap.size w W) => Lib.hid (c20 v u A cap l W (by omega) (H.below hW))
  have HL := fun W (hW : Below w.heap.size w W) => Lib.hid (c22 v u A cap l W (H.below hW) hall)
  have HI := fun W (k : Int) (hk : 0 ≤ k ∧ k ≤ 4096) (hW : Below w.heap.size w W) => Lib.hid (c93 v u A cap l k W hv hu ⟨hlen, hso⟩ hk (H.below hW))
  have hfi : Hid (Mo.fires v u l fs = if Mo.each fs.length 256 (Mo.fire1 v.n fs) ≠ 0 then Mo.each fs.length 256 (Mo.fire1 v.n fs) else Mo.first (fs.map (Mo.fire2 v u l))) := by
    show _ = _
    have he : Mo.first [Mo.all v u l, Mo.each fs.length 256 (Mo.fire1 v.n fs)] = Mo.each fs.length 256 (Mo.fire1 v.n fs) := by
      rw [hall]; simp only [Mo.first]; split <;> simp_all
    unfold Mo.fires; rw [he]
  have hfo : Hid (Mo.each fs.length 256 (Mo.fire1 v.n fs) = 0 → fs.length ≤ 256 ∧ ∀ f ∈ fs, (0 ≤ f.t ∧ f.t ≤ v.n - 1) ∧ 1 ≤ f.v ∧ f.v ≤ 1001) := fun h => Mo.fires_ok hv h
  simp only [hall] at HC
  obtain ⟨N, hN⟩ : ∃ N : Nat, v.n = N := ⟨v.n.toNat, by omega⟩
  have hN1 : 1 ≤ N ∧ N ≤ 4096 := by omega
  have hNN : Hid (v.n.toNat = N) := by show _ = _; omega
  have HVN := Lib.hid hN
  have hLvl : Hid ((Mo.levels v u l).length = N) := by show _ = _; unfold Mo.levels; rw [List.length_map, List.length_range, hNN.out]
  have hLv2 : ∀ t : Nat, t < N → Hid (((Mo.levels v u l).map (Value.int .i64))[t]? = some (.int .i64 (Mo.level v u l t))) := fun t ht => by
    show _ = _
    unfold Mo.levels; rw [hNN.out]; simp [ht]
  rw [hNN.out] at HL
  rw [hN]
  simp only [hN] at HC HL HI
  clear hso hv hu H hall hvn hN
  obtain ⟨n, hn⟩ : ∃ n, n = l.length := ⟨_, rfl⟩
  rw [← hn] at HC HL HI ⊢
  clear hn hlen
  obtain ⟨m, hm⟩ : ∃ m, m = fs.length := ⟨_, rfl⟩
  have Hm := Lib.hid hm
  rw [← hm] at hfl ⊢
  clear hm
  obtain ⟨W, hW⟩ : ∃ W, W = (w.alloc (Obj.cells #[.int .i64 v.sx, .int .i64 v.sy, .int .i64 v.dx, .int .i64 v.dy, .int .i64 (N : Int)] 25)).alloc (Obj.cells #[.int .i64 u.ring, .int .i64 u.speed, .int .i64 u.loss, .int .i64 u.clear, .int .i64 u.soft] 27) := ⟨_, rfl⟩
  have hT0 : W.heap[w.heap.size]? = some (.cells #[.int .i64 v.sx, .int .i64 v.sy, .int .i64 v.dx, .int .i64 v.dy, .int .i64 (N : Int)] 25 (0, 0)) := by rw [hW]; exact heap_old (by simp <;> omega) (heap_new (by simp))
  have h0_0 : W.cell? ⟨w.heap.size, 0, none⟩ = some (.int .i64 v.sx) := cell_at hT0 rfl
  have h0_1 : W.cell? ⟨w.heap.size, 1, none⟩ = some (.int .i64 v.sy) := cell_at hT0 rfl
  have h0_2 : W.cell? ⟨w.heap.size, 2, none⟩ = some (.int .i64 v.dx) := cell_at hT0 rfl
  have h0_3 : W.cell? ⟨w.heap.size, 3, none⟩ = some (.int .i64 v.dy) := cell_at hT0 rfl
  have h0_4 : W.cell? ⟨w.heap.size, 4, none⟩ = some (.int .i64 (N : Int)) := cell_at hT0 rfl
  have hT1 : W.heap[w.heap.size + 1]? = some (.cells #[.int .i64 u.ring, .int .i64 u.speed, .int .i64 u.loss, .int .i64 u.clear, .int .i64 u.soft] 27 (0, 0)) := by rw [hW]; exact heap_new (by simp)
  have h1_0 : W.cell? ⟨w.heap.size + 1, 0, none⟩ = some (.int .i64 u.ring) := cell_at hT1 rfl
  have h1_1 : W.cell? ⟨w.heap.size + 1, 1, none⟩ = some (.int .i64 u.speed) := cell_at hT1 rfl
  have h1_2 : W.cell? ⟨w.heap.size + 1, 2, none⟩ = some (.int .i64 u.loss) := cell_at hT1 rfl
  have h1_3 : W.cell? ⟨w.heap.size + 1, 3, none⟩ = some (.int .i64 u.clear) := cell_at hT1 rfl
  have h1_4 : W.cell? ⟨w.heap.size + 1, 4, none⟩ = some (.int .i64 u.soft) := cell_at hT1 rfl
  have hs : w.heap.size + 2 = W.heap.size := by rw [hW]; simp
  have hB : Below w.heap.size w W := by rw [hW]; exact (((Below.refl _ _).alloc (by first | omega | (simp <;> omega)) _).alloc (by first | omega | (simp <;> omega)) _)
  have hs0 : w.heap.size < W.heap.size := by omega
  have hs1 : w.heap.size + 1 < W.heap.size := by omega
  clear hs hT0 hT1
  have HFW := HF.below hB
  go_enter Tryz.func36, Tryz.ntmps36
  go_wp2_with fail
  rw [← hW]
  clear hW
  go_wp2_with fail
  refine (HC _ hB).out.mono ?_
  rintro e w1 ⟨rfl, hb1⟩
  have hB1 := fin0 hB hb1
  obtain ⟨hc1, hf1⟩ := bcell hb1
  by_cases hmm : 256 < m
  · have hfin : Hid (Mo.fires v u l fs = 5) := by
      show _ = _
      rw [hfi.out, ← Hm.out]
      simp [Mo.each, hmm]
    go_wp2
    go_ret
    exact ⟨ret_int hfin.out.symm, hB1⟩
  · have hmo : Hid (Mo.each fs.length 256 (Mo.fire1 v.n fs) = Mo.first ((List.range m).map (Mo.fire1 v.n fs))) := by show _ = _; rw [← Hm.out]; simp [Mo.each, hmm]
    go_wp2
    go_loopw [10] (fun i wr => ∃ k : Nat, k ≤ m ∧ i = .int .i64 k ∧ Below W.heap.size W wr ∧ Mo.first ((List.range m).map (Mo.fire1 v.n fs)) = Mo.first (((List.range m).map (Mo.fire1 v.n fs)).drop k)) (fun i _ => m - (intOf i).toNat)
    case atStart => exact ⟨0, Nat.zero_le _, rfl, hb1, rfl⟩
    case round =>
      clear hc1 hf1
      obtain ⟨k, hk, rfl, hBr, he⟩ := hrel
      have HE := Lib.hid he
      clear he
      obtain ⟨hcr, hfr⟩ := bcell hBr
      have e4 : wr.cell? ⟨w.heap.size, 4, none⟩ = some (.int .i64 N) := (hcr _ _ hs0).trans h0_4
      have z0 : w.heap.size < wr.heap.size := Nat.lt_of_lt_of_le hs0 hBr.size
      by_cases hlt : k < m
      · clear hcr hfr
        obtain ⟨b, off, f, rfl, hx, hb, hc⟩ := (HFW.below hBr).at Fir.len (by rw [← Hm.out]; exact hlt)
        have q0 : wr.cell? ⟨b, off + k * 2, none⟩ = some (.int .i64 f.t) := hc 0 (by omega)
        have q1 : wr.cell? ⟨b, off + k * 2 + 1, none⟩ = some (.int .i64 f.v) := hc 1 (by omega)
        have hfk : Hid (Mo.fire1 v.n fs k = Mo.first [Mo.range f.t 0 ((N : Int) - 1), Mo.range f.v 1 1001]) := by
          show _ = _
          unfold Mo.fire1; rw [hx, HVN.out]; simp only []
          rw [IntWalk.wrap64_in _ (by omega)]
        have Hs := Lib.hid (Mo.first_range m k (Mo.fire1 v.n fs) hlt)
        have ew : IntKind.i64.wrap ((N : Int) - 1) = (N : Int) - 1 := IntWalk.i64_in _ (by omega)
        clear hc hx
        go_wp2
        refine wp_region_splitG 15 (by kernel_rfl) (by kernel_rfl) ?_
        simp only [List.take_succ_cons, List.take_zero, List.drop_succ_cons, List.drop_zero]
        repeat (go_big_quiet_step ((first | (go_at_call 49; exact Calls.gw_same (c49 _ _ _ _)))))
        refine wpQuiet_nil (gw_out ?_)
        intro w2 hb2
        go_wp2_with (first | (go_at_call 92; refine (c92 _ 2 _ [Mo.range f.t 0 ((N : Int) - 1), Mo.range f.v 1 1001] _ rfl (by omega) ?_).mono ?_; (first | exact RdS.of_new (by simp) rfl | exact RdS.drew (RdS.of_new (by simp) rfl)); rintro e w' ⟨rfl, rfl⟩))
        · go_ret
          have hne : (Mo.first [Mo.range f.t 0 ((N : Int) - 1), Mo.range f.v 1 1001] != 0) = true := by assumption
          have hne' : Mo.fire1 v.n fs k ≠ 0 := by rw [hfk.out]; simpa using hne
          have hval : Mo.first ((List.range m).map (Mo.fire1 v.n fs)) = Mo.fire1 v.n fs k := by rw [HE.out, Hs.out, if_pos hne']
          exact ⟨ret_int (by rw [hfi.out, hmo.out, hval, if_pos hne', hfk.out]), fin0 hB ((fin0 hBr hb2).alloc (fin0 hBr hb2).size _)⟩
        · have hz' : (Mo.first [Mo.range f.t 0 ((N : Int) - 1), Mo.range f.v 1 1001] != 0) = false := by assumption
          have hz : Mo.fire1 v.n fs k = 0 := by rw [hfk.out]; simpa using hz'
          have HZ := Lib.hid hz
          clear hz
          go_roundw
          case rel => exact ⟨k+1, by omega, by go_num, (fin0 hBr hb2).alloc (fin0 hBr hb2).size _, by rw [HE.out, Hs.out, if_neg (by rw [HZ.out]; simp)]⟩
          case measure => simp [intOf]; omega
      · have hzz : Mo.each fs.length 256 (Mo.fire1 v.n fs) = 0 := by rw [hmo.out, HE.out, Mo.first_range_end _ _ _ (by omega)]
        obtain ⟨-, hf2⟩ := hfo.out hzz
        have hfin : Hid (Mo.fires v u l fs = Mo.first (fs.map (Mo.fire2 v u l))) := by show _ = _; rw [hfi.out, if_neg (by simpa using hzz)]
        have HF2 := Lib.hid hf2
        have hBw := fin0 hB hBr
        have e0 : wr.cell? ⟨w.heap.size, 0, none⟩ = some (.int .i64 v.sx) := (hcr _ _ hs0).trans h0_0
        have e1 : wr.cell? ⟨w.heap.size, 1, none⟩ = some (.int .i64 v.sy) := (hcr _ _ hs0).trans h0_1
        have e2 : wr.cell? ⟨w.heap.size, 2, none⟩ = some (.int .i64 v.dx) := (hcr _ _ hs0).trans h0_2
        have e3 : wr.cell? ⟨w.heap.size, 3, none⟩ = some (.int .i64 v.dy) := (hcr _ _ hs0).trans h0_3
        have f0 : wr.cell? ⟨w.heap.size + 1, 0, none⟩ = some (.int .i64 u.ring) := (hcr _ _ hs1).trans h1_0
        have f1 : wr.cell? ⟨w.heap.size + 1, 1, none⟩ = some (.int .i64 u.speed) := (hcr _ _ hs1).trans h1_1
        have f2 : wr.cell? ⟨w.heap.size + 1, 2, none⟩ = some (.int .i64 u.loss) := (hcr _ _ hs1).trans h1_2
        have f3 : wr.cell? ⟨w.heap.size + 1, 3, none⟩ = some (.int .i64 u.clear) := (hcr _ _ hs1).trans h1_3
        have f4 : wr.cell? ⟨w.heap.size + 1, 4, none⟩ = some (.int .i64 u.soft) := (hcr _ _ hs1).trans h1_4
        clear hzz hf2 hmo hfi hfo HE hcr hfr
        go_wp2_with fail
        refine (HL _ hBw).out.mono ?_
        rintro e w4 ⟨x, rfl, hx, hb4⟩
        obtain ⟨LA, lcap, rfl, hR⟩ := hx
        have hBr4 := fin0 hBr hb4
        have HR := Lib.hid hR
        clear hR e0 e1 e2 e3 e4 f0 f1 f2 f3 f4
        go_wp2
        go_loopw [13] (fun i wr => ∃ k : Nat, k ≤ m ∧ i = .int .i64 k ∧ Below W.heap.size W wr ∧ Below w4.heap.size w4 wr ∧ Mo.first (fs.map (Mo.fire2 v u l)) = Mo.first ((fs.map (Mo.fire2 v u l)).drop k)) (fun i _ => m - (intOf i).toNat)
        case atStart => exact ⟨0, Nat.zero_le _, rfl, hBr4, Below.refl _ _, rfl⟩
        case round =>
          obtain ⟨k, hk, rfl, hBq, hBq4, he⟩ := hrel
          have HE := Lib.hid he
          clear he
          by_cases hlt : k < m
          · obtain ⟨b, off, f, rfl, hx, hb, hc⟩ := (HFW.below hBq).at Fir.len (by rw [← Hm.out]; exact hlt)
            have hff := (HF2.out f (List.mem_of_getElem? hx)).1
            have hVN := HVN.out
            obtain ⟨t, ht⟩ : ∃ t : Nat, f.t = t := ⟨f.t.toNat, by omega⟩
            have htN : t < N := by omega
            obtain ⟨lb, loff, hLA, hlb, hlc⟩ := (HR.out.below hBq4).at htN
            have q0 : wr.cell? ⟨b, off + k * 2, none⟩ = some (.int .i64 t) := (hc 0 (by omega)).trans (by rw [← ht]; rfl)
            have q1 : wr.cell? ⟨b, off + k * 2 + 1, none⟩ = some (.int .i64 f.v) := hc 1 (by omega)
            have q2 : wr.cell? ⟨lb, loff + t, none⟩ = some (.int .i64 (Mo.level v u l t)) := by have := hlc 0 (by omega); simp only [Nat.mul_one, Nat.add_zero] at this; rw [this]; exact (hLv2 t htN).out
            obtain ⟨hcq, hfq⟩ := bcell hBq
            have hstep : Hid (Mo.first ((fs.map (Mo.fire2 v u l)).drop k) = if Mo.fire2 v u l f ≠ 0 then Mo.fire2 v u l f else Mo.first ((fs.map (Mo.fire2 v u l)).drop (k + 1))) := by
              show _ = _
              obtain ⟨hk', rfl⟩ := List.getElem?_eq_some_iff.1 hx
              rw [Mo.first_drop _ k (by simpa using hk')]; simp
            have hf2 := Lib.hid (Mo.fire2_of v u l f t ht)
            have HLA := Lib.hid hLA
            have hz0 : w.heap.size < wr.heap.size := Nat.lt_of_lt_of_le hs0 hBq.size
            have hz1 : w.heap.size + 1 < wr.heap.size := Nat.lt_of_lt_of_le hs1 hBq.size
            have hx1 : (0 : Int) ≤ (t : Int) := by omega
            have hx2 : (t : Int) < (N : Int) := by omega
            subst hLA
            clear hc hx hlc hff hVN ht
            go_wp2
            refine wp_region_growG (by kernel_rfl) (by kernel_rfl) ?_
            repeat (go_big_quiet_step ((first | fail)))
            refine wpQuiet_nil (gw_out ?_)
            intro w5 hb5
            have hB5 := fin0 hBq hb5
            have hB54 := fin0 hBq4 hb5
            by_cases hle : f.v ≤ Mo.level v u l t
            · go_wp2
              go_roundw
              case rel => exact ⟨k+1, by omega, by go_num, hB5, hB54, by rw [HE.out, hstep.out, if_neg (by rw [hf2.out.1 hle]; simp)]⟩
              case measure => simp [intOf]; omega
            · obtain ⟨hcq, hfq⟩ := bcell hB5
              have hBw5 := fin0 hB hB5
              have e0 : w5.cell? ⟨w.heap.size, 0, none⟩ = some (.int .i64 v.sx) := (hcq _ _ hs0).trans h0_0
              have e1 : w5.cell? ⟨w.heap.size, 1, none⟩ = some (.int .i64 v.sy) := (hcq _ _ hs0).trans h0_1
              have e2 : w5.cell? ⟨w.heap.size, 2, none⟩ = some (.int .i64 v.dx) := (hcq _ _ hs0).trans h0_2
              have e3 : w5.cell? ⟨w.heap.size, 3, none⟩ = some (.int .i64 v.dy) := (hcq _ _ hs0).trans h0_3
              have e4 : w5.cell? ⟨w.heap.size, 4, none⟩ = some (.int .i64 (N : Int)) := (hcq _ _ hs0).trans h0_4
              have f0 : w5.cell? ⟨w.heap.size + 1, 0, none⟩ = some (.int .i64 u.ring) := (hcq _ _ hs1).trans h1_0
              have f1 : w5.cell? ⟨w.heap.size + 1, 1, none⟩ = some (.int .i64 u.speed) := (hcq _ _ hs1).trans h1_1
              have f2 : w5.cell? ⟨w.heap.size + 1, 2, none⟩ = some (.int .i64 u.loss) := (hcq _ _ hs1).trans h1_2
              have f3 : w5.cell? ⟨w.heap.size + 1, 3, none⟩ = some (.int .i64 u.clear) := (hcq _ _ hs1).trans h1_3
              have f4 : w5.cell? ⟨w.heap.size + 1, 4, none⟩ = some (.int .i64 u.soft) := (hcq _ _ hs1).trans h1_4
              have q0' : w5.cell? ⟨b, off + k * 2, none⟩ = some (.int .i64 t) := (hb5.cell (p := ⟨b, _, none⟩) hb).trans q0
              have y0 : w.heap.size < w5.heap.size := Nat.lt_of_lt_of_le hs0 hB5.size
              have y1 : w.heap.size + 1 < w5.heap.size := Nat.lt_of_lt_of_le hs1 hB5.size
              have y2 : b < w5.heap.size := Nat.lt_of_lt_of_le hb hb5.size
              clear hcq hfq q0 q1 q2
              go_wp2
              refine wp_region_growG (by kernel_rfl) (by kernel_rfl) ?_
              repeat (go_big_quiet_step ((first | (go_at_call 93; exact Calls.gw_of ((HI _ (t : Int) (by omega) (hBw5.call (Go.gw_below _ _) rfl)).out)))))
              refine wpQuiet_nil (gw_out ?_)
              intro w6 hb6
              have hB6 := fin0 hB5 hb6
              cases hin : Mo.inside v u l t
              · have HIN := Lib.hid hin
                clear hin
                go_wp2
                go_ret
                exact ⟨ret_int (by rw [hfin.out, HE.out, hstep.out, hf2.out.2.2 hle HIN.out]; rfl), fin0 hB hB6⟩
              · have HIN := Lib.hid hin
                clear hin
                go_wp2
                go_ret
                exact ⟨ret_int (by rw [hfin.out, HE.out, hstep.out, hf2.out.2.1 hle HIN.out]; rfl), fin0 hB hB6⟩
          · go_wp2
            go_ret
            exact ⟨ret_int (by rw [hfin.out, HE.out, List.drop_of_length_le (by rw [List.length_map, ← Hm.out]; omega)]; rfl), fin0 hB hBq⟩

end Go.Proofs.YtndhjkammoeikaaGreatDoor
namespace Go.Proofs.YtndhjkammoeikaaGreatDoor
namespace Mo
def runsStep (r : List Spn) (t : Nat) : List Spn := match r.getLast? with
  | some s => if s.t = t then r.dropLast ++ [⟨s.f, t + 1⟩] else r ++ [⟨t, t + 1⟩]
  | none => [⟨t, t + 1⟩]
def runs (p : Nat → Bool) : Nat → List Spn
  | 0 => []
  | t + 1 => if p t then runsStep (runs p t) t else runs p t
theorem runsStep_nil (t : Nat) : runsStep [] t = [⟨t, t + 1⟩] := rfl
theorem runsStep_eq (r : List Spn) (s : Spn) (t : Nat) (h : s.t = t) : runsStep (r ++ [s]) t = r ++ [⟨s.f, t + 1⟩] := by
  unfold runsStep; simp [h]
theorem runsStep_ne (r : List Spn) (s : Spn) (t : Nat) (h : s.t ≠ t) : runsStep (r ++ [s]) t = r ++ [s] ++ [⟨t, t + 1⟩] := by
  unfold runsStep; simp [h]
theorem runsStep_len (r : List Spn) (t : Nat) : (runsStep r t).length ≤ r.length + 1 := by
  rcases List.eq_nil_or_concat r with rfl | ⟨r', s, rfl⟩
  · simp [runsStep_nil]
  · rw [List.concat_eq_append]
    by_cases h : s.t = t
    · rw [runsStep_eq _ _ _ h]; simp
    · rw [runsStep_ne _ _ _ h]; simp
theorem runs_len (p : Nat → Bool) (t : Nat) : (runs p t).length ≤ t := by
  induction t with
  | zero => simp [runs]
  | succ t ih => unfold runs; split
                 · have := runsStep_len (runs p t) t; omega
                 · omega
theorem flat_set (r : List Spn) (s : Spn) (x : Int) : ((r ++ [s]).flatMap Spn.enc).set (r.length * 2 + 1) (.int .i64 x) = (r ++ [(⟨s.f, x⟩ : Spn)]).flatMap Spn.enc := by
  have hl : (r.flatMap Spn.enc).length = r.length * 2 := by
    induction r with
    | nil => rfl
    | cons a r ih => simp only [List.flatMap_cons, List.length_append, ih, Spn.len, List.length_cons]; omega
  rw [List.flatMap_append, List.flatMap_append, List.set_append_right _ _ (by omega), hl]
  have : r.length * 2 + 1 - r.length * 2 = 1 := by omega
  rw [this]; rfl
theorem flat_last (r : List Spn) (s : Spn) : ((r ++ [s]).flatMap Spn.enc)[r.length * 2 + 1]? = some (.int .i64 s.t) := by
  have hl : (r.flatMap Spn.enc).length = r.length * 2 := by
    induction r with
    | nil => rfl
    | cons a r ih => simp only [List.flatMap_cons, List.length_append, ih, Spn.len, List.length_cons]; omega
  rw [List.flatMap_append, List.getElem?_append_right (by omega), hl]
  have : r.length * 2 + 1 - r.length * 2 = 1 := by omega
  rw [this]; rfl
end Mo
end Go.Proofs.YtndhjkammoeikaaGreatDoor
namespace Go.Proofs.YtndhjkammoeikaaGreatDoor
open Go.RowKit
set_option maxHeartbeats 1000000
set_option maxRecDepth 20000
theorem info96 : (Tryz.prog.info? 96).map (fun i => (i.zero, i.size, i.bytes)) = some (some (.agg #[.int .i64 0, .int .i64 0]), 2, 16) := by kernel_rfl

theorem c90_91 (N : Nat) (p0 : Addr) (p : Nat → Bool) (w : World) (hN : N ≤ 4096)
   (hcl : ∀ (W : World) (k : Nat), k < N → Below w.heap.size w W → Calls Tryz.prog 91 #[.int .i64 k, .pointer (some p0)] W fun e w' => e = .returned (.bool (p k)) ∧ Below W.heap.size W w') :
   Calls Tryz.prog 90 #[.int .i64 N, .func (.func 91) #[] #[.pointer (some p0)]] w fun en w' => ∃ x, en = .returned x ∧ Sl w' 2 x (Mo.runs p N).length ((Mo.runs p N).flatMap Spn.enc) ∧ Below w.heap.size w w' := by
  have Hcl := Lib.hid hcl
  clear hcl
  obtain ⟨i0, hi, hz0, hz1, hz2⟩ := info_parts info96
  go_enter Tryz.func90, Tryz.ntmps90
  go_wp2
  go_loopw [5, 9] (fun x i wr => ∃ k : Nat, k ≤ N ∧ i = .int .i64 k ∧ wr.ownsRow w.heap.size 96 2 x (Mo.runs p k).length ((Mo.runs p k).flatMap Spn.enc) ∧ Below w.heap.size w wr) (fun _ i _ => N - (intOf i).toNat)
  case atStart => exact ⟨0, Nat.zero_le _, rfl, World.ownsRow_nil _ _ _ _, Below.refl _ _⟩
  case round =>
    obtain ⟨k, hk, rfl, hown, hB⟩ := hrel
    by_cases hlt : k < N
    · have hlen := Mo.runs_len p k
      have hst : Hid (Mo.runs p (k + 1) = if p k then Mo.runsStep (Mo.runs p k) k else Mo.runs p k) := rfl
      obtain ⟨r, hr⟩ : ∃ r, r = Mo.runs p k := ⟨_, rfl⟩
      rw [← hr] at hown hlen
      have HST : Hid (Mo.runs p (k + 1) = if p k then Mo.runsStep r k else r) := by rw [hr]; exact hst
      clear hst hr
      go_wp2_with fail
      refine (Hcl.out _ k hlt hB).mono ?_
      rintro e w1 ⟨rfl, hb1⟩
      have hown1 := own_below hown hb1
      have hB1 := hB.call hb1 rfl
      have hsz := hB1.size
      clear hown hb1
      cases hp : p k
      · have HP : Hid (Mo.runs p (k + 1) = r) := by show _ = _; rw [HST.out, hp]; rfl
        have HO : Hid (w1.ownsRow w.heap.size 96 2 u5 r.length (r.flatMap Spn.enc)) := hown1
        clear hp HST hown1
        go_wp2
        go_roundw
        case rel => exact ⟨k + 1, by omega, by go_num, by rw [HP.out]; exact HO.out, hB1⟩
        case measure => simp [intOf]; omega
      · have HP : Hid (Mo.runs p (k + 1) = Mo.runsStep r k) := by show _ = _; rw [HST.out, hp]; rfl
        clear hp HST
        rcases List.eq_nil_or_concat r with rfl | ⟨r', s, rfl⟩
        · have hown2 := hown1
          simp only [List.length_nil, List.flatMap_nil] at hown2
          clear hown1
          obtain ⟨A0, c0, rfl⟩ : ∃ A0 c0, u5 = .slice A0 0 c0 := by
            rcases hown2.2 with ⟨h, _⟩ | ⟨g, cap, cur, h, _⟩
            · exact ⟨none, 0, h⟩
            · exact ⟨_, cap, h⟩
          go_wp2_with (at_builtin; refine wpList_append_own _ rfl _ _ 42 rfl w.heap.size 96 i0 (.agg #[.int .i64 0, .int .i64 0]) 2 16 Tryz.underlying42 hi hz0 hz1 hz2 rfl (by decide) _ _ _ rfl (hown2.alloc _) ⟨w1.heap.size, 0, none⟩ 1 1 [.int .i64 k, .int .i64 ((k : Int) + 1)] rfl rfl ?ax1 ?ax2 ?ax3 ?ax4 ?ax5 ?_)
          case ax1 => exact news_one _ _ rfl
          case ax2 => intro x hx; simp at hx; first | (subst hx; rfl) | (rcases hx with rfl | rfl <;> rfl) | (rcases hx with rfl | rfl | rfl <;> rfl)
          case ax3 => unfold maxLen; omega
          case ax4 => omega
          case ax5 => simp; omega
          intro x' w3 hown3 hg3 _
          have hB3 : Below w.heap.size w w3 := (hB1.alloc hsz _).grown hg3 (by simp; omega) (fun g hg => (hown2.lt g hg).1)
          have HO := Lib.hid hown3
          clear hown3 hg3 hown2
          go_wp2
          go_roundw
          case rel => exact ⟨k + 1, by omega, by go_num, by rw [HP.out, Mo.runsStep_nil]; exact HO.out, hB3⟩
          case measure => simp [intOf]; omega
        · rw [List.concat_eq_append] at HP hown1 hlen
          obtain ⟨m, hm⟩ : ∃ m, m = r'.length := ⟨_, rfl⟩
          have hlm : (r' ++ [s]).length = m + 1 := by simp [hm]
          rw [hlm] at hown1 hlen
          obtain ⟨g, cap, rfl, hgB, hgl⟩ := hown1.form (by omega)
          have hcl := hown1.cellAt (m * 2 + 1) (by omega)
          rw [hm, Mo.flat_last, ← hm] at hcl
          have hfz := hown1.frozenAt (m * 2 + 1)
          have HM := Lib.hid hm
          clear hm hlm
          by_cases he : s.t = k
          · have heb : (s.t == (k : Int)) = true := by simp [he]
            have HE := Lib.hid he
            have hst := hown1.stored (m * 2 + 1) (.int .i64 ((k : Int) + 1))
            rw [HM.out, Mo.flat_set, ← HM.out] at hst
            have HO := Lib.hid hst.1
            have hB3 := hB1.setCell (p := ⟨g, m * 2 + 1, none⟩) hgB (.int .i64 ((k : Int) + 1))
            clear hst hown1 he
            go_wp2
            go_roundw
            case rel => exact ⟨k + 1, by omega, by go_num, by rw [HP.out, Mo.runsStep_eq _ _ _ HE.out, List.length_append, List.length_singleton, ← HM.out]; exact HO.out, hB3⟩
            case measure => simp [intOf]; omega
          · have heb : (s.t == (k : Int)) = false := by simp [he]
            have HE := Lib.hid he
            clear he
            go_wp2_with (at_builtin; refine wpList_append_own _ rfl _ _ 42 rfl w.heap.size 96 i0 (.agg #[.int .i64 0, .int .i64 0]) 2 16 Tryz.underlying42 hi hz0 hz1 hz2 rfl (by decide) _ _ _ rfl (hown1.alloc _) ⟨w1.heap.size, 0, none⟩ 1 1 [.int .i64 k, .int .i64 ((k : Int) + 1)] rfl rfl ?ay1 ?ay2 ?ay3 ?ay4 ?ay5 ?_)
            case ay1 => exact news_one _ _ rfl
            case ay2 => intro x hx; simp at hx; first | (subst hx; rfl) | (rcases hx with rfl | rfl <;> rfl) | (rcases hx with rfl | rfl | rfl <;> rfl)
            case ay3 => unfold maxLen; omega
            case ay4 => omega
            case ay5 => simp; omega
            intro x' w3 hown3 hg3 _
            have hB3 : Below w.heap.size w w3 := (hB1.alloc hsz _).grown hg3 (by simp; omega) (fun g hg => (hown1.lt g hg).1)
            have HO := Lib.hid hown3
            clear hown3 hg3 hown1
            go_wp2
            go_roundw
            case rel => exact ⟨k + 1, by omega, by go_num, by rw [HP.out, Mo.runsStep_ne _ _ _ HE.out, List.length_append, List.length_append, List.length_singleton, List.length_singleton, ← HM.out, List.flatMap_append, List.flatMap_append, List.append_assoc]; exact HO.out, hB3⟩
            case measure => simp [intOf]; omega
    · obtain rfl : k = N := by omega
      have HO := Lib.hid hown
      clear hown
      go_wp2
      go_ret
      exact ⟨_, rfl, Sl.of_own HO.out, hB⟩

theorem c90_106 (N : Nat) (p0 p1 p2 : Addr) (p : Nat → Bool) (w : World) (hN : N ≤ 4096)
   (hcl : ∀ (W : World) (k : Nat), k < N → Below w.heap.size w W → Calls Tryz.prog 106 #[.int .i64 k, .pointer (some p0), .pointer (some p1), .pointer (some p2)] W fun e w' => e = .returned (.bool (p k)) ∧ Below W.heap.size W w') :
   Calls Tryz.prog 90 #[.int .i64 N, .func (.func 106) #[] #[.pointer (some p0), .pointer (some p1), .pointer (some p2)]] w fun en w' => ∃ x, en = .returned x ∧ Sl w' 2 x (Mo.runs p N).length ((Mo.runs p N).flatMap Spn.enc) ∧ Below w.heap.size w w' := by
  have Hcl := Lib.hid hcl
  clear hcl
  obtain ⟨i0, hi, hz0, hz1, hz2⟩ := info_parts info96
  go_enter Tryz.func90, Tryz.ntmps90
  go_wp2
  go_loopw [5, 9] (fun x i wr => ∃ k : Nat, k ≤ N ∧ i = .int .i64 k ∧ wr.ownsRow w.heap.size 96 2 x (Mo.runs p k).length ((Mo.runs p k).flatMap Spn.enc) ∧ Below w.heap.size w wr) (fun _ i _ => N - (intOf i).toNat)
  case atStart => exact ⟨0, Nat.zero_le _, rfl, World.ownsRow_nil _ _ _ _, Below.refl _ _⟩
  case round =>
    obtain ⟨k, hk, rfl, hown, hB⟩ := hrel
    by_cases hlt : k < N
    · have hlen := Mo.runs_len p k
      have hst : Hid (Mo.runs p (k + 1) = if p k then Mo.runsStep (Mo.runs p k) k else Mo.runs p k) := rfl
      obtain ⟨r, hr⟩ : ∃ r, r = Mo.runs p k := ⟨_, rfl⟩
      rw [← hr] at hown hlen
      have HST : Hid (Mo.runs p (k + 1) = if p k then Mo.runsStep r k else r) := by rw [hr]; exact hst
      clear hst hr
      go_wp2_with fail
      refine (Hcl.out _ k hlt hB).mono ?_
      rintro e w1 ⟨rfl, hb1⟩
      have hown1 := own_below hown hb1
      have hB1 := hB.call hb1 rfl
      have hsz := hB1.size
      clear hown hb1
      cases hp : p k
      · have HP : Hid (Mo.runs p (k + 1) = r) := by show _ = _; rw [HST.out, hp]; rfl
        have HO : Hid (w1.ownsRow w.heap.size 96 2 u5 r.length (r.flatMap Spn.enc)) := hown1
        clear hp HST hown1
        go_wp2
        go_roundw
        case rel => exact ⟨k + 1, by omega, by go_num, by rw [HP.out]; exact HO.out, hB1⟩
        case measure => simp [intOf]; omega
      · have HP : Hid (Mo.runs p (k + 1) = Mo.runsStep r k) := by show _ = _; rw [HST.out, hp]; rfl
        clear hp HST
        rcases List.eq_nil_or_concat r with rfl | ⟨r', s, rfl⟩
        · have hown2 := hown1
          simp only [List.length_nil, List.flatMap_nil] at hown2
          clear hown1
          obtain ⟨A0, c0, rfl⟩ : ∃ A0 c0, u5 = .slice A0 0 c0 := by
            rcases hown2.2 with ⟨h, _⟩ | ⟨g, cap, cur, h, _⟩
            · exact ⟨none, 0, h⟩
            · exact ⟨_, cap, h⟩
          go_wp2_with (at_builtin; refine wpList_append_own _ rfl _ _ 42 rfl w.heap.size 96 i0 (.agg #[.int .i64 0, .int .i64 0]) 2 16 Tryz.underlying42 hi hz0 hz1 hz2 rfl (by decide) _ _ _ rfl (hown2.alloc _) ⟨w1.heap.size, 0, none⟩ 1 1 [.int .i64 k, .int .i64 ((k : Int) + 1)] rfl rfl ?ax1 ?ax2 ?ax3 ?ax4 ?ax5 ?_)
          case ax1 => exact news_one _ _ rfl
          case ax2 => intro x hx; simp at hx; first | (subst hx; rfl) | (rcases hx with rfl | rfl <;> rfl) | (rcases hx with rfl | rfl | rfl <;> rfl)
          case ax3 => unfold maxLen; omega
          case ax4 => omega
          case ax5 => simp; omega
          intro x' w3 hown3 hg3 _
          have hB3 : Below w.heap.size w w3 := (hB1.alloc hsz _).grown hg3 (by simp; omega) (fun g hg => (hown2.lt g hg).1)
          have HO := Lib.hid hown3
          clear hown3 hg3 hown2
          go_wp2
          go_roundw
          case rel => exact ⟨k + 1, by omega, by go_num, by rw [HP.out, Mo.runsStep_nil]; exact HO.out, hB3⟩
          case measure => simp [intOf]; omega
        · rw [List.concat_eq_append] at HP hown1 hlen
          obtain ⟨m, hm⟩ : ∃ m, m = r'.length := ⟨_, rfl⟩
          have hlm : (r' ++ [s]).length = m + 1 := by simp [hm]
          rw [hlm] at hown1 hlen
          obtain ⟨g, cap, rfl, hgB, hgl⟩ := hown1.form (by omega)
          have hcl := hown1.cellAt (m * 2 + 1) (by omega)
          rw [hm, Mo.flat_last, ← hm] at hcl
          have hfz := hown1.frozenAt (m * 2 + 1)
          have HM := Lib.hid hm
          clear hm hlm
          by_cases he : s.t = k
          · have heb : (s.t == (k : Int)) = true := by simp [he]
            have HE := Lib.hid he
            have hst := hown1.stored (m * 2 + 1) (.int .i64 ((k : Int) + 1))
            rw [HM.out, Mo.flat_set, ← HM.out] at hst
            have HO := Lib.hid hst.1
            have hB3 := hB1.setCell (p := ⟨g, m * 2 + 1, none⟩) hgB (.int .i64 ((k : Int) + 1))
            clear hst hown1 he
            go_wp2
            go_roundw
            case rel => exact ⟨k + 1, by omega, by go_num, by rw [HP.out, Mo.runsStep_eq _ _ _ HE.out, List.length_append, List.length_singleton, ← HM.out]; exact HO.out, hB3⟩
            case measure => simp [intOf]; omega
          · have heb : (s.t == (k : Int)) = false := by simp [he]
            have HE := Lib.hid he
            clear he
            go_wp2_with (at_builtin; refine wpList_append_own _ rfl _ _ 42 rfl w.heap.size 96 i0 (.agg #[.int .i64 0, .int .i64 0]) 2 16 Tryz.underlying42 hi hz0 hz1 hz2 rfl (by decide) _ _ _ rfl (hown1.alloc _) ⟨w1.heap.size, 0, none⟩ 1 1 [.int .i64 k, .int .i64 ((k : Int) + 1)] rfl rfl ?ay1 ?ay2 ?ay3 ?ay4 ?ay5 ?_)
            case ay1 => exact news_one _ _ rfl
            case ay2 => intro x hx; simp at hx; first | (subst hx; rfl) | (rcases hx with rfl | rfl <;> rfl) | (rcases hx with rfl | rfl | rfl <;> rfl)
            case ay3 => unfold maxLen; omega
            case ay4 => omega
            case ay5 => simp; omega
            intro x' w3 hown3 hg3 _
            have hB3 : Below w.heap.size w w3 := (hB1.alloc hsz _).grown hg3 (by simp; omega) (fun g hg => (hown1.lt g hg).1)
            have HO := Lib.hid hown3
            clear hown3 hg3 hown1
            go_wp2
            go_roundw
            case rel => exact ⟨k + 1, by omega, by go_num, by rw [HP.out, Mo.runsStep_ne _ _ _ HE.out, List.length_append, List.length_append, List.length_singleton, List.length_singleton, ← HM.out, List.flatMap_append, List.flatMap_append, List.append_assoc]; exact HO.out, hB3⟩
            case measure => simp [intOf]; omega
    · obtain rfl : k = N := by omega
      have HO := Lib.hid hown
      clear hown
      go_wp2
      go_ret
      exact ⟨_, rfl, Sl.of_own HO.out, hB⟩

end Go.Proofs.YtndhjkammoeikaaGreatDoor
namespace Go.Proofs.YtndhjkammoeikaaGreatDoor
open Go.RowKit
theorem cell_keep {w : World} {b i : Nat} {o : Obj} (h : b < w.heap.size) (_ : True) : (w.alloc o).cell? ⟨b, i, none⟩ = w.cell? ⟨b, i, none⟩ := World.cell?_of_block (w := w) (Below.heap_alloc w o b h)
end Go.Proofs.YtndhjkammoeikaaGreatDoor
namespace Go.Proofs.YtndhjkammoeikaaGreatDoor
open Go.RowKit
set_option maxHeartbeats 1000000
set_option maxRecDepth 20000

theorem Mo.level_nn {u : Wat} (hu : WOk u) (v : Ves) (l : List Sgt) (t : Nat) : 0 ≤ Mo.level v u l t ∧ Mo.level v u l t ≤ u.soft + 1 := by
  have := hu.soft
  unfold Mo.level
  omega
theorem Mo.levels_at (v : Ves) (u : Wat) (l : List Sgt) {N t : Nat} (hN : v.n.toNat = N) (ht : t < N) : ((Mo.levels v u l).map (Value.int .i64))[t]? = some (.int .i64 (Mo.level v u l t)) := by
  simp [Mo.levels, hN, ht]
theorem c91 (x : Int) (N t g pl : Nat) (w : World) (ht : t < N) (hN : N ≤ 4096) (hpl : w.cell? ⟨pl, 0, none⟩ = some (.slice (some ⟨g, 0, none⟩) N N)) (hg : w.cell? ⟨g, t, none⟩ = some (.int .i64 x)) :
    Calls Tryz.prog 91 #[.int .i64 t, .pointer (some ⟨pl, 0, none⟩)] w fun en w' => en = .returned (.bool (x == 0)) ∧ Below w.heap.size w w' := by
  go_enter Tryz.func91, Tryz.ntmps91
  go_wp2
  go_ret
  exact ⟨rfl, Below.refl _ _⟩
theorem c19_bad (v : Ves) (u : Wat) (A : Option Addr) (cap : Nat) (l : List Sgt) (w : World) (hl : l.length ≤ 1000000) (H : RdL w 3 Sgt.enc A l) (hbad : Mo.all v u l ≠ 0) :
    Calls Tryz.prog 19 #[.agg #[.int .i64 v.sx, .int .i64 v.sy, .int .i64 v.dx, .int .i64 v.dy, .int .i64 v.n], .agg #[.int .i64 u.ring, .int .i64 u.speed, .int .i64 u.loss, .int .i64 u.clear, .int .i64 u.soft], .slice A l.length cap] w fun en w' => en = .returned (.tuple #[.slice none 0 0, .int .i64 (Mo.all v u l)]) ∧ Below w.heap.size w w' := by
  have hb' : (Mo.all v u l != 0) = true := by simpa using hbad
  have HC := fun W (hW : Below w.heap.size w W) => Lib.hid (c87 v u A cap l W hl (H.below hW))
  clear H hbad
  go_enter Tryz.func19, Tryz.ntmps19
  go_wp2_with fail
  refine (HC _ ?_).out.mono ?_
  · exact (((Below.refl _ _).alloc (by first | omega | (simp <;> omega)) _).alloc (by first | omega | (simp <;> omega)) _)
  rintro e w1 ⟨rfl, hb1⟩
  go_wp2
  go_ret2
  exact ⟨rfl, ((((Below.refl _ _).alloc (by first | omega | (simp <;> omega)) _).alloc (by first | omega | (simp <;> omega)) _).call hb1 rfl).alloc (by have := hb1.size; simp at this; omega) _⟩
theorem c19_ok (v : Ves) (u : Wat) (A : Option Addr) (cap : Nat) (l : List Sgt) (w : World) (H : RdL w 3 Sgt.enc A l) (hok : Mo.all v u l = 0) :
    Calls Tryz.prog 19 #[.agg #[.int .i64 v.sx, .int .i64 v.sy, .int .i64 v.dx, .int .i64 v.dy, .int .i64 v.n], .agg #[.int .i64 u.ring, .int .i64 u.speed, .int .i64 u.loss, .int .i64 u.clear, .int .i64 u.soft], .slice A l.length cap] w fun en w' => ∃ x, en = .returned (.tuple #[x, .int .i64 0]) ∧
      Sl w' 2 x (Mo.runs (fun (t : Nat) => Mo.level v u l t == 0) v.n.toNat).length ((Mo.runs (fun (t : Nat) => Mo.level v u l t == 0) v.n.toNat).flatMap Spn.enc) ∧ Below w.heap.size w w' := by
  obtain ⟨hv, hu, hlen, hso⟩ := Mo.all_ok hok
  have hvn := hv.n
  have HC := fun W (hW : Below w.heap.size w W) => Lib.hid (c87 v u A cap l W (by omega) (H.below hW))
  have HL := fun W (hW : Below w.heap.size w W) => Lib.hid (c89 v u A cap l W (H.below hW) hok)
  obtain ⟨N, hN⟩ : ∃ N : Nat, v.n = N := ⟨v.n.toNat, by omega⟩
  have hN1 : 1 ≤ N ∧ N ≤ 4096 := by omega
  have hNN : v.n.toNat = N := by omega
  have HLA := fun t ht => Lib.hid (Mo.levels_at v u l (t := t) hNN ht)
  rw [hNN] at HL ⊢
  simp only [hok, hN] at HC HL ⊢
  clear H hok hlen hso hv hu hvn hNN hN
  obtain ⟨n, hn⟩ : ∃ n, n = l.length := ⟨_, rfl⟩
  rw [← hn] at HC HL ⊢
  clear hn
  go_enter Tryz.func19, Tryz.ntmps19
  go_wp2_with fail
  refine (HC _ ?_).out.mono ?_
  · exact (((Below.refl _ _).alloc (by first | omega | (simp <;> omega)) _).alloc (by first | omega | (simp <;> omega)) _)
  rintro e w1 ⟨rfl, hb1⟩
  obtain ⟨hc1, hf1, hc2, hf2⟩ := bgrow hb1
  have hz0 : w.heap.size < w1.heap.size := by have := hb1.size; simp at this; omega
  have hB1 := (((Below.refl _ _).alloc (by first | omega | (simp <;> omega)) _).alloc (by first | omega | (simp <;> omega)) _).call hb1 rfl
  have hsz := hB1.size
  have hvc : (w1.alloc (Obj.cells #[.int .i64 u.ring, .int .i64 u.speed, .int .i64 u.loss, .int .i64 u.clear, .int .i64 u.soft, .int .i64 v.sx, .int .i64 v.sy, .int .i64 v.dx, .int .i64 v.dy, .int .i64 (N : Int), .slice A n cap] 162)).cell? ⟨w.heap.size, 4, none⟩ = some (.int .i64 N) := by rw [hc2 _ _ _ hz0, hc1 _ _ (by simp; omega)]; simp
  clear hc1 hf1 hc2 hf2 hb1
  go_wp2_with fail
  refine (HL _ ?_).out.mono ?_
  · exact hB1.alloc hsz _
  rintro e w2 ⟨g, rfl, hg, hle, hb2⟩
  have hgl : g < w2.heap.size := (Array.getElem?_eq_some_iff.1 hg).1
  have hz2 : w.heap.size < w2.heap.size := by have := hb2.size; simp at this; omega
  have hv2 : w2.cell? ⟨w.heap.size, 4, none⟩ = some (.int .i64 N) := (hb2.cell (p := ⟨w.heap.size, 4, none⟩) (by simp; omega)).trans hvc
  have HG := Lib.hid hg
  have hB2 := fin0 (hB1.alloc hsz _) hb2
  have hB3 := hB2.alloc hB2.size (Obj.cells #[.slice (some ⟨g, 0, none⟩) N N] 39)
  have hv3 : (w2.alloc (Obj.cells #[.slice (some ⟨g, 0, none⟩) N N] 39)).cell? ⟨w.heap.size, 4, none⟩ = some (.int .i64 N) := (cell_keep hz2 trivial).trans hv2
  clear hg hb2 hvc hv2
  go_wp2_with fail
  refine (c90_91 N ⟨w2.heap.size, 0, none⟩ (fun (t : Nat) => Mo.level v u l t == 0) _ (by omega) ?_).mono ?_
  · intro W' k hk hW'
    have hsz' := hW'.size
    simp at hsz'
    have e1 : W'.heap[w2.heap.size]? = some (.cells #[.slice (some ⟨g, 0, none⟩) N N] 39 (0, 0)) := (hW'.block _ (by simp)).trans (heap_new rfl)
    have e2 := (hW'.block g (by simp; omega)).trans (heap_old (o := Obj.cells #[.slice (some ⟨g, 0, none⟩) N N] 39) hgl HG.out)
    exact c91 (Mo.level v u l k) N k g w2.heap.size W' hk (by omega) (cell_at e1 rfl) (cell_at e2 (by simpa using (HLA k hk).out))
  rintro e w3 ⟨x, rfl, hx, hb3⟩
  have HX := Lib.hid hx
  have hB4 := hB3.call hb3 rfl
  clear hx
  go_wp2
  go_ret2
  exact ⟨x, rfl, HX.out, hB4⟩

end Go.Proofs.YtndhjkammoeikaaGreatDoor
namespace Go.Proofs.YtndhjkammoeikaaGreatDoor
open Go.RowKit
set_option maxHeartbeats 1000000
set_option maxRecDepth 20000

theorem c23 (v : Ves) (u : Wat) (A : Option Addr) (cap : Nat) (l : List Sgt) (w : World) (H : RdL w 3 Sgt.enc A l) (hok : Mo.all v u l = 0) :
    Calls Tryz.prog 23 #[.agg #[.int .i64 v.sx, .int .i64 v.sy, .int .i64 v.dx, .int .i64 v.dy, .int .i64 v.n], .agg #[.int .i64 u.ring, .int .i64 u.speed, .int .i64 u.loss, .int .i64 u.clear, .int .i64 u.soft], .slice A l.length cap] w fun en w' => ∃ x, en = .returned x ∧
      Sl w' 2 x (Mo.runs (fun (t : Nat) => Mo.level v u l t == 0) v.n.toNat).length ((Mo.runs (fun (t : Nat) => Mo.level v u l t == 0) v.n.toNat).flatMap Spn.enc) ∧ Below w.heap.size w w' := by
  obtain ⟨hv, hu, hlen, hso⟩ := Mo.all_ok hok
  have hvn := hv.n
  have HL := fun W (hW : Below w.heap.size w W) => Lib.hid (c22 v u A cap l W (H.below hW) hok)
  obtain ⟨N, hN⟩ : ∃ N : Nat, v.n = N := ⟨v.n.toNat, by omega⟩
  have hN1 : 1 ≤ N ∧ N ≤ 4096 := by omega
  have hNN : v.n.toNat = N := by omega
  have HLA := fun t ht => Lib.hid (Mo.levels_at v u l (t := t) hNN ht)
  have HNN := fun t => Mo.level_nn hu v l t
  rw [hNN] at HL ⊢
  simp only [hN] at HL ⊢
  have HN0 : ∀ t, Hid (0 ≤ Mo.level v u l t) := fun t => (HNN t).1
  clear H hok hlen hso hv hu hvn hNN hN HNN
  obtain ⟨n, hn⟩ : ∃ n, n = l.length := ⟨_, rfl⟩
  rw [← hn] at HL ⊢
  clear hn
  obtain ⟨p, hp⟩ : ∃ p : Nat → Bool, p = (fun (t : Nat) => Mo.level v u l t == 0) := ⟨_, rfl⟩
  have hpt : ∀ t, Hid (p t = (Mo.level v u l t == 0)) := fun t => by show _ = _; rw [hp]
  rw [← hp]
  clear hp
  obtain ⟨i0, hi, hz0, hz1, hz2⟩ := info_parts info96
  obtain ⟨W, hW⟩ : ∃ W, W = (w.alloc (Obj.cells #[.int .i64 v.sx, .int .i64 v.sy, .int .i64 v.dx, .int .i64 v.dy, .int .i64 (N : Int)] 25)).alloc (Obj.cells #[.int .i64 u.ring, .int .i64 u.speed, .int .i64 u.loss, .int .i64 u.clear, .int .i64 u.soft] 27) := ⟨_, rfl⟩
  have hT0 : W.heap[w.heap.size]? = some (.cells #[.int .i64 v.sx, .int .i64 v.sy, .int .i64 v.dx, .int .i64 v.dy, .int .i64 (N : Int)] 25 (0, 0)) := by rw [hW]; exact heap_old (by simp <;> omega) (heap_new (by simp))
  have h0_0 : W.cell? ⟨w.heap.size, 0, none⟩ = some (.int .i64 v.sx) := cell_at hT0 rfl
  have h0_1 : W.cell? ⟨w.heap.size, 1, none⟩ = some (.int .i64 v.sy) := cell_at hT0 rfl
  have h0_2 : W.cell? ⟨w.heap.size, 2, none⟩ = some (.int .i64 v.dx) := cell_at hT0 rfl
  have h0_3 : W.cell? ⟨w.heap.size, 3, none⟩ = some (.int .i64 v.dy) := cell_at hT0 rfl
  have h0_4 : W.cell? ⟨w.heap.size, 4, none⟩ = some (.int .i64 (N : Int)) := cell_at hT0 rfl
  have hT1 : W.heap[w.heap.size + 1]? = some (.cells #[.int .i64 u.ring, .int .i64 u.speed, .int .i64 u.loss, .int .i64 u.clear, .int .i64 u.soft] 27 (0, 0)) := by rw [hW]; exact heap_new (by simp)
  have h1_0 : W.cell? ⟨w.heap.size + 1, 0, none⟩ = some (.int .i64 u.ring) := cell_at hT1 rfl
  have h1_1 : W.cell? ⟨w.heap.size + 1, 1, none⟩ = some (.int .i64 u.speed) := cell_at hT1 rfl
  have h1_2 : W.cell? ⟨w.heap.size + 1, 2, none⟩ = some (.int .i64 u.loss) := cell_at hT1 rfl
  have h1_3 : W.cell? ⟨w.heap.size + 1, 3, none⟩ = some (.int .i64 u.clear) := cell_at hT1 rfl
  have h1_4 : W.cell? ⟨w.heap.size + 1, 4, none⟩ = some (.int .i64 u.soft) := cell_at hT1 rfl
  have hs : w.heap.size + 2 = W.heap.size := by rw [hW]; simp
  have hB : Below w.heap.size w W := by rw [hW]; exact (((Below.refl _ _).alloc (by first | omega | (simp <;> omega)) _).alloc (by first | omega | (simp <;> omega)) _)
  clear hs hT0 hT1 h0_0 h0_1 h0_2 h0_3 h0_4 h1_0 h1_1 h1_2 h1_3 h1_4
  go_enter Tryz.func23, Tryz.ntmps23
  go_wp2_with fail
  rw [← hW]
  clear hW
  refine (HL _ hB).out.mono ?_
  rintro e w4 ⟨x, rfl, hx, hb4⟩
  obtain ⟨LA, lcap, rfl, hR⟩ := hx
  have HR := Lib.hid hR
  have hB4 := hB.call hb4 rfl
  clear hR hb4 HL
  go_wp2
  go_loopw [8, 9] (fun x i wr => ∃ k : Nat, k ≤ N ∧ i = .int .i64 k ∧ wr.ownsRow w4.heap.size 96 2 x (Mo.runs p k).length ((Mo.runs p k).flatMap Spn.enc) ∧ Below w4.heap.size w4 wr) (fun _ i _ => N - (intOf i).toNat)
  case atStart => exact ⟨0, Nat.zero_le _, rfl, World.ownsRow_nil _ _ _ _, Below.refl _ _⟩
  case round =>
    obtain ⟨k, hk, rfl, hown, hB1⟩ := hrel
    by_cases hlt : k < N
    · have hlenr := Mo.runs_len p k
      have hst : Hid (Mo.runs p (k + 1) = if p k then Mo.runsStep (Mo.runs p k) k else Mo.runs p k) := rfl
      obtain ⟨r, hr⟩ : ∃ r, r = Mo.runs p k := ⟨_, rfl⟩
      rw [← hr] at hown hlenr
      have HST : Hid (Mo.runs p (k + 1) = if p k then Mo.runsStep r k else r) := by rw [hr]; exact hst
      clear hst hr
      obtain ⟨lb, loff, rfl, hlb, hlc⟩ := (HR.out.below hB1).at hlt
      have q0 : wr.cell? ⟨lb, loff + k, none⟩ = some (.int .i64 (Mo.level v u l k)) := by have := hlc 0 (by omega); simp only [Nat.mul_one, Nat.add_zero] at this; rw [this]; exact (HLA k hlt).out
      have hown1 := hown
      have hsz := hB1.size
      clear hown hlc
      by_cases hlv : 0 < Mo.level v u l k
      · have HP : Hid (Mo.runs p (k + 1) = r) := by show _ = _; rw [HST.out, (hpt k).out, if_neg (by simp; omega)]
        have HO : Hid (wr.ownsRow w4.heap.size 96 2 u8 r.length (r.flatMap Spn.enc)) := hown1
        clear HST hown1
        go_wp2
        go_roundw
        case rel => exact ⟨k + 1, by omega, by go_num, by rw [HP.out]; exact HO.out, hB1⟩
        case measure => simp [intOf]; omega
      · have HP : Hid (Mo.runs p (k + 1) = Mo.runsStep r k) := by show _ = _; have := (HN0 k).out; rw [HST.out, (hpt k).out, if_pos (by simp; omega)]
        clear HST
        rcases List.eq_nil_or_concat r with rfl | ⟨r', s, rfl⟩
        · have hown2 := hown1
          simp only [List.length_nil, List.flatMap_nil] at hown2
          clear hown1
          obtain ⟨A0, c0, rfl⟩ : ∃ A0 c0, u8 = .slice A0 0 c0 := by
            rcases hown2.2 with ⟨h, _⟩ | ⟨g, cap, cur, h, _⟩
            · exact ⟨none, 0, h⟩
            · exact ⟨_, cap, h⟩
          go_wp2_with (at_builtin; refine wpList_append_own _ rfl _ _ 42 rfl w4.heap.size 96 i0 (.agg #[.int .i64 0, .int .i64 0]) 2 16 Tryz.underlying42 hi hz0 hz1 hz2 rfl (by decide) _ _ _ rfl (hown2.alloc _) ⟨wr.heap.size, 0, none⟩ 1 1 [.int .i64 k, .int .i64 ((k : Int) + 1)] rfl rfl (news_one _ _ rfl) (by intro x hx; simp at hx; first | (subst hx; rfl) | (rcases hx with rfl | rfl <;> rfl) | (rcases hx with rfl | rfl | rfl <;> rfl)) (by unfold maxLen; omega) (by omega) (by simp; omega) ?_)
          intro x' w3 hown3 hg3 _
          have hB3 : Below w4.heap.size w4 w3 := (hB1.alloc hsz _).grown hg3 (by simp; omega) (fun g hg => (hown2.lt g hg).1)
          have HO := Lib.hid hown3
          clear hown3 hg3 hown2
          go_wp2
          go_roundw
          case rel => exact ⟨k + 1, by omega, by go_num, by rw [HP.out, Mo.runsStep_nil]; exact HO.out, hB3⟩
          case measure => simp [intOf]; omega
        · rw [List.concat_eq_append] at HP hown1 hlenr
          obtain ⟨m, hm⟩ : ∃ m, m = r'.length := ⟨_, rfl⟩
          have hlm : (r' ++ [s]).length = m + 1 := by simp [hm]
          rw [hlm] at hown1 hlenr
          obtain ⟨g, gcap, rfl, hgB, hgl⟩ := hown1.form (by omega)
          have hcl := hown1.cellAt (m * 2 + 1) (by omega)
          rw [hm, Mo.flat_last, ← hm] at hcl
          have hfz := hown1.frozenAt (m * 2 + 1)
          have HM := Lib.hid hm
          clear hm hlm
          by_cases he : s.t = k
          · have heb : (s.t == (k : Int)) = true := by simp [he]
            have HE := Lib.hid he
            have hst := hown1.stored (m * 2 + 1) (.int .i64 ((k : Int) + 1))
            rw [HM.out, Mo.flat_set, ← HM.out] at hst
            have HO := Lib.hid hst.1
            have hB3 := hB1.setCell (p := ⟨g, m * 2 + 1, none⟩) hgB (.int .i64 ((k : Int) + 1))
            clear hst hown1 he
            go_wp2
            go_roundw
            case rel => exact ⟨k + 1, by omega, by go_num, by rw [HP.out, Mo.runsStep_eq _ _ _ HE.out, List.length_append, List.length_singleton, ← HM.out]; exact HO.out, hB3⟩
            case measure => simp [intOf]; omega
          · have heb : (s.t == (k : Int)) = false := by simp [he]
            have HE := Lib.hid he
            clear he
            go_wp2_with (at_builtin; refine wpList_append_own _ rfl _ _ 42 rfl w4.heap.size 96 i0 (.agg #[.int .i64 0, .int .i64 0]) 2 16 Tryz.underlying42 hi hz0 hz1 hz2 rfl (by decide) _ _ _ rfl (hown1.alloc _) ⟨wr.heap.size, 0, none⟩ 1 1 [.int .i64 k, .int .i64 ((k : Int) + 1)] rfl rfl (news_one _ _ rfl) (by intro x hx; simp at hx; first | (subst hx; rfl) | (rcases hx with rfl | rfl <;> rfl) | (rcases hx with rfl | rfl | rfl <;> rfl)) (by unfold maxLen; omega) (by omega) (by simp; omega) ?_)
            intro x' w3 hown3 hg3 _
            have hB3 : Below w4.heap.size w4 w3 := (hB1.alloc hsz _).grown hg3 (by simp; omega) (fun g hg => (hown1.lt g hg).1)
            have HO := Lib.hid hown3
            clear hown3 hg3 hown1
            go_wp2
            go_roundw
            case rel => exact ⟨k + 1, by omega, by go_num, by rw [HP.out, Mo.runsStep_ne _ _ _ HE.out, List.length_append, List.length_append, List.length_singleton, List.length_singleton, ← HM.out, List.flatMap_append, List.flatMap_append, List.append_assoc]; exact HO.out, hB3⟩
            case measure => simp [intOf]; omega
    · obtain rfl : k = N := by omega
      have HO := Lib.hid hown
      clear hown
      go_wp2
      go_ret
      exact ⟨_, rfl, Sl.of_own HO.out, hB4.call hB1 rfl⟩

end Go.Proofs.YtndhjkammoeikaaGreatDoor
