/- A part of the proofs about chapter 9: contracts of functions and plain laws (W25, W26, Model9, W27, W28, Model10, W29). -/
import Derived.Deep.LoopGhost
import Derived.Test.YtndhjkammoeikaaGreatDoorA04
import Derived.Test.YtndhjkammoeikaaGreatDoorA03
set_option linter.all false
namespace Go.Proofs.YtndhjkammoeikaaGreatDoor
open Go.RowKit
set_option maxHeartbeats 1000000
set_option maxRecDepth 20000

def Mo.inSp (l : List Spn) (k : Int) : Bool := l.any fun s => Mo.has s.f s.t k
theorem c151 (f t k : Int) (pk : Nat) (w : World) (hpk : pk < w.heap.size) (hk : w.cell? ⟨pk, 0, none⟩ = some (.int .i64 k)) :
    Calls Tryz.prog 151 #[.agg #[.int .i64 f, .int .i64 t], .pointer (some ⟨pk, 0, none⟩)] w fun en w' => en = .returned (.bool (Mo.has f t k)) ∧ Below w.heap.size w w' := by
  have hq : (w.alloc (Obj.cells #[.int .i64 f, .int .i64 t] 96)).cell? ⟨pk, 0, none⟩ = some (.int .i64 k) := by rw [World.cell?_alloc_lt _ _ _ hpk]; exact hk
  have hne : pk ≠ w.heap.size := by omega
  clear hk
  go_enter Tryz.func151, Tryz.ntmps151
  go_wp2_with fail
  refine (c152 _ _ _ _).mono ?_
  rintro e w1 ⟨rfl, hb1⟩
  go_wp2
  go_ret
  exact ⟨rfl, ((Below.refl _ _).alloc (Nat.le_refl _) _).call hb1 rfl⟩
theorem c108 (A : Option Addr) (cap : Nat) (l : List Spn) (k : Int) (w : World) (hl : l.length ≤ 1000000) (H : RdL w 2 Spn.enc A l) :
    Calls Tryz.prog 108 #[.slice A l.length cap, .int .i64 k] w fun en w' => en = .returned (.bool (Mo.inSp l k)) ∧ Below w.heap.size w w' := by
  obtain ⟨W, hW⟩ : ∃ W, W = w.alloc (Obj.cells #[.int .i64 k] 3) := ⟨_, rfl⟩
  have hT0 : W.heap[w.heap.size]? = some (.cells #[.int .i64 k] 3 (0, 0)) := by rw [hW]; exact heap_new (by simp)
  have h0_0 : W.cell? ⟨w.heap.size, 0, none⟩ = some (.int .i64 k) := cell_at hT0 rfl
  have hs : w.heap.size + 1 = W.heap.size := by rw [hW]; simp
  have hB : Below w.heap.size w W := by rw [hW]; exact ((Below.refl _ _).alloc (by first | omega | (simp <;> omega)) _)
  have hs0 : w.heap.size < W.heap.size := by omega
  have HC := Lib.hid (c150 A cap l ⟨w.heap.size, 0, none⟩ (fun s => Mo.has s.f s.t k) W hl (H.below hB) (fun W' x hx hb =>
    c151 x.f x.t k w.heap.size W' (Nat.lt_of_lt_of_le hs0 hb.size) (((bcell hb).1 _ _ hs0).trans h0_0)))
  clear H hs hT0
  go_enter Tryz.func108, Tryz.ntmps108
  go_wp2_with fail
  rw [← hW]
  clear hW
  refine HC.out.mono ?_
  rintro e w1 ⟨rfl, hb1⟩
  go_wp2
  go_ret
  exact ⟨rfl, fin0 hB hb1⟩
theorem c110 (A : Option Addr) (cap : Nat) (l : List Spn) (k : Int) (w : World) (hl : l.length ≤ 1000000) (H : RdL w 2 Spn.enc A l) :
    Calls Tryz.prog 110 #[.slice A l.length cap, .int .i64 k] w fun en w' => en = .returned (.bool (Mo.inSp l k)) ∧ Below w.heap.size w w' := by
  obtain ⟨n, hn⟩ : ∃ n, n = l.length := ⟨_, rfl⟩
  rw [← hn] at hl ⊢
  have Hn := Lib.hid hn
  clear hn
  go_enter Tryz.func110, Tryz.ntmps110
  go_wp2
  go_loopw [5] (fun i wr => ∃ j : Nat, j ≤ n ∧ i = .int .i64 j ∧ Below w.heap.size w wr ∧ Mo.inSp l k = (l.drop j).any fun s => Mo.has s.f s.t k) (fun i _ => n - (intOf i).toNat)
  case atStart => exact ⟨0, Nat.zero_le _, rfl, Below.refl _ _, rfl⟩
  case round =>
    obtain ⟨j, hj, rfl, hB, he⟩ := hrel
    have HE := Lib.hid he
    clear he
    by_cases hlt : j < n
    · obtain ⟨b, off, s, rfl, hx, hb, hc⟩ := (H.below hB).at Spn.len (by rw [← Hn.out]; exact hlt)
      have q0 : wr.cell? ⟨b, off + j * 2, none⟩ = some (.int .i64 s.f) := hc 0 (by omega)
      have q1 : wr.cell? ⟨b, off + j * 2 + 1, none⟩ = some (.int .i64 s.t) := hc 1 (by omega)
      have HD : Hid (Mo.inSp l k = (Mo.has s.f s.t k || (l.drop (j + 1)).any fun s => Mo.has s.f s.t k)) := by
        show _ = _
        obtain ⟨hk, rfl⟩ := List.getElem?_eq_some_iff.1 hx
        rw [HE.out, List.drop_eq_getElem_cons hk]; rfl
      clear hc hx
      by_cases h1 : s.f ≤ k
      · by_cases h2 : k < s.t
        · go_wp2
          go_ret
          exact ⟨ret_bool (by rw [HD.out]; simp [Mo.has, h1, h2]), hB⟩
        · go_wp2
          go_roundw
          case rel => exact ⟨j+1, by omega, by go_num, hB, by rw [HD.out]; simp [Mo.has, h1, h2]⟩
          case measure => simp [intOf]; omega
      · go_wp2
        go_roundw
        case rel => exact ⟨j+1, by omega, by go_num, hB, by rw [HD.out]; simp [Mo.has, h1]⟩
        case measure => simp [intOf]; omega
    · go_wp2
      go_ret
      exact ⟨ret_bool (by rw [HE.out, List.drop_of_length_le (by rw [← Hn.out]; omega)]; rfl), hB⟩

end Go.Proofs.YtndhjkammoeikaaGreatDoor
namespace Go.Proofs.YtndhjkammoeikaaGreatDoor
open Go.RowKit
set_option maxHeartbeats 1000000
set_option maxRecDepth 20000

theorem c106 (u : Wat) (hu : WOk u) (x : Int) (N t g pl pb ps : Nat) (S : Option Addr) (scap : Nat) (sh : List Spn) (w : World) (ht : t < N) (hN : N ≤ 4096) (hls : sh.length ≤ 1000000) (HS : RdL w 2 Spn.enc S sh)
    (hplt : pl < w.heap.size) (hpbt : pb < w.heap.size) (hpst : ps < w.heap.size) (hgt : g < w.heap.size)
    (hpl : w.cell? ⟨pl, 0, none⟩ = some (.slice (some ⟨g, 0, none⟩) N N)) (hg : w.cell? ⟨g, t, none⟩ = some (.int .i64 x)) (hb0 : w.cell? ⟨pb, 0, none⟩ = some (.int .i64 u.ring)) (hb1 : w.cell? ⟨pb, 1, none⟩ = some (.int .i64 u.speed)) (hb2 : w.cell? ⟨pb, 2, none⟩ = some (.int .i64 u.loss)) (hb3 : w.cell? ⟨pb, 3, none⟩ = some (.int .i64 u.clear)) (hb4 : w.cell? ⟨pb, 4, none⟩ = some (.int .i64 u.soft)) (hps : w.cell? ⟨ps, 0, none⟩ = some (.slice S sh.length scap)) :
    Calls Tryz.prog 106 #[.int .i64 t, .pointer (some ⟨pl, 0, none⟩), .pointer (some ⟨pb, 0, none⟩), .pointer (some ⟨ps, 0, none⟩)] w fun en w' => en = .returned (.bool ((x == u.soft + 1) && Mo.inSp sh t)) ∧ Below w.heap.size w w' := by
  have h1 := hu.soft
  have hx1 : (0 : Int) ≤ (t : Int) := by omega
  have hx2 : (t : Int) < (N : Int) := by omega
  have HC := fun p => Lib.hid (c108 S scap sh t (gw w p) hls (HS.below (Go.gw_below w p)))
  obtain ⟨m, hm⟩ : ∃ m, m = sh.length := ⟨_, rfl⟩
  rw [← hm] at hps HC
  clear hm HS hls
  cases hx : (x == u.soft + 1)
  · go_enter Tryz.func106, Tryz.ntmps106
    go_wp2
    refine wp_region_growG (by kernel_rfl) (by kernel_rfl) ?_
    repeat (go_big_quiet_step ((first | (go_at_call 107; exact Calls.gw_of (c107 _ _ _ _ _ _ (by omega) (by omega))))))
    refine wpQuiet_nil (gw_out ?_)
    intro w1 hb1
    go_wp2
    go_ret
    exact ⟨rfl, hb1⟩
  · go_enter Tryz.func106, Tryz.ntmps106
    go_wp2
    refine wp_region_growG (by kernel_rfl) (by kernel_rfl) ?_
    repeat (go_big_quiet_step ((first | (go_at_call 107; exact Calls.gw_of (c107 _ _ _ _ _ _ (by omega) (by omega))) | (go_at_call 108; exact Calls.gw_of ((HC _).out)))))
    refine wpQuiet_nil (gw_out ?_)
    intro w1 hb1
    go_wp2
    go_ret
    exact ⟨rfl, hb1⟩

end Go.Proofs.YtndhjkammoeikaaGreatDoor
namespace Go.Proofs.YtndhjkammoeikaaGreatDoor
namespace Mo
def winP (v : Ves) (u : Wat) (l : List Sgt) (sh : List Spn) (t : Nat) : Bool := (level v u l t == u.soft + 1) && inSp sh t
def findW (rs : List Spn) (k : Int) : Int × Int := match rs.find? (fun s => decide (k ≤ s.t - s.f)) with
  | some s => (s.f, 0)
  | none => (0, 7)
def winE (v : Ves) (u : Wat) (l : List Sgt) (sh : List Spn) (k : Int) : Int := first [all v u l, spans sh, range k 1 4096]
def window (v : Ves) (u : Wat) (l : List Sgt) (sh : List Spn) (k : Int) : Int × Int :=
  if winE v u l sh k ≠ 0 then (0, winE v u l sh k) else findW (runs (winP v u l sh) v.n.toNat) k
theorem runsStep_bd (r : List Spn) (t : Nat) (h : ∀ s ∈ r, 0 ≤ s.f ∧ s.f < s.t ∧ s.t ≤ t) : ∀ s ∈ runsStep r t, 0 ≤ s.f ∧ s.f < s.t ∧ s.t ≤ t + 1 := by
  rcases List.eq_nil_or_concat r with rfl | ⟨r', s', rfl⟩
  · intro s hs; rw [runsStep_nil] at hs; simp at hs; subst hs; simp; omega
  · rw [List.concat_eq_append] at h ⊢
    intro s hs
    by_cases he : s'.t = t
    · rw [runsStep_eq _ _ _ he] at hs
      rcases List.mem_append.1 hs with hs | hs
      · have := h s (List.mem_append_left _ hs); omega
      · simp at hs; subst hs
        have := h s' (by simp); simp; omega
    · rw [runsStep_ne _ _ _ he] at hs
      rcases List.mem_append.1 hs with hs | hs
      · have := h s hs; omega
      · simp at hs; subst hs; simp; omega
theorem runs_bd (p : Nat → Bool) (t : Nat) : ∀ s ∈ runs p t, 0 ≤ s.f ∧ s.f < s.t ∧ s.t ≤ t := by
  induction t with
  | zero => intro s hs; cases hs
  | succ t ih =>
    unfold runs
    split
    · have := runsStep_bd _ t ih
      intro s hs; have := this s hs; push_cast; omega
    · intro s hs; have := ih s hs; push_cast; omega
theorem find_step (p : Spn → Bool) {rs : List Spn} {k : Nat} {s : Spn} (h : rs[k]? = some s) : (rs.drop k).find? p = if p s then some s else (rs.drop (k + 1)).find? p := by
  obtain ⟨hk, rfl⟩ := List.getElem?_eq_some_iff.1 h
  rw [List.drop_eq_getElem_cons hk, List.find?_cons]
  cases p rs[k] <;> rfl
theorem spans_ok {l : List Spn} (h : spans l = 0) : l.length ≤ 256 ∧ ∀ s ∈ l, 0 ≤ s.f ∧ s.f < s.t ∧ s.t ≤ 100000 := by
  obtain ⟨h1, h2⟩ := each_zero h
  refine ⟨h1, fun s hs => ?_⟩
  obtain ⟨k, hk, rfl⟩ := List.mem_iff_getElem.1 hs
  have h3 := h2 k hk
  unfold spn1 at h3
  rw [List.getElem?_eq_getElem hk] at h3
  have h4 := first_zero h3
  have h5 := when_zero (by decide) (h4 (when (badSpan l[k].f l[k].t) 14) (by simp))
  unfold badSpan at h5
  simp at h5
  omega
end Mo
end Go.Proofs.YtndhjkammoeikaaGreatDoor
namespace Go.Proofs.YtndhjkammoeikaaGreatDoor
open Go.RowKit
set_option maxHeartbeats 1000000
set_option maxRecDepth 20000

theorem c38_bad (v : Ves) (u : Wat) (A : Option Addr) (cap : Nat) (l : List Sgt) (S : Option Addr) (scap : Nat) (sh : List Spn) (tk : Int) (w : World) (hl : l.length ≤ 1000000) (H : RdL w 3 Sgt.enc A l) (hls : sh.length ≤ 1000000) (HS : RdL w 2 Spn.enc S sh) (hbad : Mo.winE v u l sh tk ≠ 0) :
    Calls Tryz.prog 38 #[.agg #[.int .i64 v.sx, .int .i64 v.sy, .int .i64 v.dx, .int .i64 v.dy, .int .i64 v.n], .agg #[.int .i64 u.ring, .int .i64 u.speed, .int .i64 u.loss, .int .i64 u.clear, .int .i64 u.soft], .slice A l.length cap, .slice S sh.length scap, .int .i64 tk] w fun en w' => en = .returned (.tuple #[.int .i64 0, .int .i64 (Mo.winE v u l sh tk)]) ∧ Below w.heap.size w w' := by
  have hb' : (Mo.first [Mo.all v u l, Mo.spans sh, Mo.range tk 1 4096] != 0) = true := by have h := hbad; unfold Mo.winE at h; simpa using h
  have HC := fun W (hW : Below w.heap.size w W) => Lib.hid (c87 v u A cap l W hl (H.below hW))
  have HP := fun W (hW : Below w.heap.size w W) => Lib.hid (c105 S scap sh W hls (HS.below hW))
  obtain ⟨n, hn⟩ : ∃ n, n = l.length := ⟨_, rfl⟩
  obtain ⟨m, hm⟩ : ∃ m, m = sh.length := ⟨_, rfl⟩
  rw [← hn] at HC ⊢
  rw [← hm] at HP ⊢
  clear H HS hbad hn hm hl hls
  go_enter Tryz.func38, Tryz.ntmps38
  go_wp2_with fail
  go_step3
  go_wp2_with fail
  refine (HC _ ?_).out.mono ?_
  · exact ((((Below.refl _ _).alloc (by first | omega | (simp <;> omega)) _).alloc (by first | omega | (simp <;> omega)) _).alloc (by first | omega | (simp <;> omega)) _)
  rintro e w1 ⟨rfl, hb1⟩
  obtain ⟨hc1, hf1, hc2, hf2⟩ := bgrow hb1
  have hz2 : w.heap.size + 1 + 1 < w1.heap.size := by have := hb1.size; simp at this; omega
  have hB1 := ((((Below.refl _ _).alloc (by first | omega | (simp <;> omega)) _).alloc (by first | omega | (simp <;> omega)) _).alloc (by first | omega | (simp <;> omega)) _).call hb1 rfl
  have hB2 := hB1.alloc hB1.size (Obj.cells #[.int .i64 u.ring, .int .i64 u.speed, .int .i64 u.loss, .int .i64 u.clear, .int .i64 u.soft, .int .i64 v.sx, .int .i64 v.sy, .int .i64 v.dx, .int .i64 v.dy, .int .i64 v.n, .slice A n cap] 162)
  have hsc : (w1.alloc (Obj.cells #[.int .i64 u.ring, .int .i64 u.speed, .int .i64 u.loss, .int .i64 u.clear, .int .i64 u.soft, .int .i64 v.sx, .int .i64 v.sy, .int .i64 v.dx, .int .i64 v.dy, .int .i64 v.n, .slice A n cap] 162)).cell? ⟨w.heap.size + 1 + 1, 0, none⟩ = some (.slice S m scap) := (hc2 _ _ _ hz2).trans ((hc1 (w.heap.size + 1 + 1) 0 (by simp)).trans (cell_at (heap_new (by simp)) rfl))
  clear hc1 hf1 hc2 hf2 hb1
  go_wp2_with fail
  refine (HP _ hB2).out.mono ?_
  rintro e w2 ⟨rfl, hb2⟩
  have hB3 := hB2.call hb2 rfl
  go_wp2_with (first | (go_at_call 96; refine (c96 _ _ _ _).mono ?_; rintro e w' ⟨rfl, rfl⟩) | (go_at_call 94; refine (c94 _ 3 _ [Mo.all v u l, Mo.spans sh, Mo.range tk 1 4096] _ rfl (by omega) ?_).mono ?_; (first | exact RdS.of_new (by simp) rfl | exact RdS.drew (RdS.of_new (by simp) rfl)); rintro e w' ⟨rfl, rfl⟩))
  rw [Exit.noGoto_ret]
  go_ret2
  exact ⟨rfl, hB3.alloc hB3.size _⟩

theorem c38_ok (v : Ves) (u : Wat) (A : Option Addr) (cap : Nat) (l : List Sgt) (S : Option Addr) (scap : Nat) (sh : List Spn) (tk : Int) (w : World) (H : RdL w 3 Sgt.enc A l) (HS : RdL w 2 Spn.enc S sh) (hok : Mo.winE v u l sh tk = 0) :
    Calls Tryz.prog 38 #[.agg #[.int .i64 v.sx, .int .i64 v.sy, .int .i64 v.dx, .int .i64 v.dy, .int .i64 v.n], .agg #[.int .i64 u.ring, .int .i64 u.speed, .int .i64 u.loss, .int .i64 u.clear, .int .i64 u.soft], .slice A l.length cap, .slice S sh.length scap, .int .i64 tk] w fun en w' => en = .returned (.tuple #[.int .i64 (Mo.findW (Mo.runs (Mo.winP v u l sh) v.n.toNat) tk).1, .int .i64 (Mo.findW (Mo.runs (Mo.winP v u l sh) v.n.toNat) tk).2]) ∧ Below w.heap.size w w' := by
  have h0 := Mo.first_zero hok
  have hall : Mo.all v u l = 0 := h0 _ (by simp)
  have hsp : Mo.spans sh = 0 := h0 _ (by simp)
  have hrg : Mo.range tk 1 4096 = 0 := h0 _ (by simp)
  have hb' : (Mo.first [Mo.all v u l, Mo.spans sh, Mo.range tk 1 4096] != 0) = false := by have h := hok; unfold Mo.winE at h; simpa using h
  obtain ⟨hv, hu, hlen, hso⟩ := Mo.all_ok hall
  obtain ⟨hsl, hsb⟩ := Mo.spans_ok hsp
  have hvn := hv.n
  obtain ⟨N, hN⟩ : ∃ N : Nat, v.n = N := ⟨v.n.toNat, by omega⟩
  have hNN : v.n.toNat = N := by omega
  have hN1 : 1 ≤ N ∧ N ≤ 4096 := by omega
  have htk : 1 ≤ tk ∧ tk ≤ 4096 := Mo.range_zero hrg
  have HC := fun W (hW : Below w.heap.size w W) => Lib.hid (c87 v u A cap l W (by omega) (H.below hW))
  have HP := fun W (hW : Below w.heap.size w W) => Lib.hid (c105 S scap sh W (by omega) (HS.below hW))
  have HL := fun W (hW : Below w.heap.size w W) => Lib.hid (c89 v u A cap l W (H.below hW) hall)
  have HQ := fun t g pl pb ps W ht hplt hpbt hpst hgt hpl hg b0 b1 b2 b3 b4 hps (hW : Below w.heap.size w W) => Lib.hid (c106 u hu (Mo.level v u l t) N t g pl pb ps S scap sh W ht hN1.2 (by omega) (HS.below hW) hplt hpbt hpst hgt hpl hg b0 b1 b2 b3 b4 hps)
  have HR := fun (r0 r1 r2 : Addr) W h => Lib.hid (c90_106 N r0 r1 r2 (Mo.winP v u l sh) W hN1.2 h)
  have hL2 : ∀ t : Nat, t < N → Hid (((Mo.levels v u l).map (Value.int .i64))[t]? = some (.int .i64 (Mo.level v u l t))) := fun t ht => by
    show _ = _
    unfold Mo.levels; rw [hNN]; simp [ht]
  rw [hNN] at HL ⊢
  simp only [hN] at HC HL HQ ⊢
  clear h0 hrg hsp hok hso hv hu H HS hN hvn hNN hall
  obtain ⟨n, hn⟩ : ∃ n, n = l.length := ⟨_, rfl⟩
  obtain ⟨m, hm⟩ : ∃ m, m = sh.length := ⟨_, rfl⟩
  rw [← hn] at HC HL ⊢
  rw [← hm] at HP HQ ⊢
  clear hn hm hlen hsl hsb
  go_enter Tryz.func38, Tryz.ntmps38
  go_wp2_with fail
  go_step3
  go_wp2_with fail
  refine (HC _ ?_).out.mono ?_
  · exact ((((Below.refl _ _).alloc (by first | omega | (simp <;> omega)) _).alloc (by first | omega | (simp <;> omega)) _).alloc (by first | omega | (simp <;> omega)) _)
  rintro e w1 ⟨rfl, hb1⟩
  obtain ⟨hc1, -⟩ := bcell hb1
  have hz1 : w.heap.size + 1 + 1 < w1.heap.size := by have := hb1.size; simp at this; omega
  have hz10 : w.heap.size < w1.heap.size := by omega
  have hB1 := ((((Below.refl _ _).alloc (by first | omega | (simp <;> omega)) _).alloc (by first | omega | (simp <;> omega)) _).alloc (by first | omega | (simp <;> omega)) _).call hb1 rfl
  obtain ⟨W2, hW2⟩ : ∃ W2, W2 = w1.alloc (Obj.cells #[.int .i64 u.ring, .int .i64 u.speed, .int .i64 u.loss, .int .i64 u.clear, .int .i64 u.soft, .int .i64 v.sx, .int .i64 v.sy, .int .i64 v.dx, .int .i64 v.dy, .int .i64 N, .slice A n cap] 162) := ⟨_, rfl⟩
  obtain ⟨bb, hbb⟩ : ∃ bb, bb = w1.heap.size := ⟨_, rfl⟩
  have hB2 : Below w.heap.size w W2 := by rw [hW2]; exact hB1.alloc hB1.size (Obj.cells #[.int .i64 u.ring, .int .i64 u.speed, .int .i64 u.loss, .int .i64 u.clear, .int .i64 u.soft, .int .i64 v.sx, .int .i64 v.sy, .int .i64 v.dx, .int .i64 v.dy, .int .i64 N, .slice A n cap] 162)
  have hz2 : w.heap.size + 1 + 1 < W2.heap.size := by rw [hW2]; simp; omega
  have hz3 : bb < W2.heap.size := by rw [hW2, hbb]; simp
  have hz4 : w.heap.size < bb := by omega
  have hz5 : w.heap.size + 1 + 1 < bb := by omega
  have a0 : W2.cell? ⟨w.heap.size, 4, none⟩ = some (.int .i64 N) := by rw [hW2]; exact ((bcell ((Below.refl w1.heap.size w1).alloc (Nat.le_refl _) _)).1 _ _ (by omega)).trans ((hc1 w.heap.size 4 (by simp <;> omega)).trans (cell_at (heap_old (by simp <;> omega) (heap_old (by simp <;> omega) (heap_new (by simp)))) rfl))
  have a2 : W2.cell? ⟨w.heap.size + 1 + 1, 0, none⟩ = some (.slice S m scap) := by rw [hW2]; exact ((bcell ((Below.refl w1.heap.size w1).alloc (Nat.le_refl _) _)).1 _ _ (by omega)).trans ((hc1 (w.heap.size + 1 + 1) 0 (by simp)).trans (cell_at (heap_new (by simp)) rfl))
  have bT : W2.heap[bb]? = some (.cells #[.int .i64 u.ring, .int .i64 u.speed, .int .i64 u.loss, .int .i64 u.clear, .int .i64 u.soft, .int .i64 v.sx, .int .i64 v.sy, .int .i64 v.dx, .int .i64 v.dy, .int .i64 N, .slice A n cap] 162 (0, 0)) := by rw [hW2, hbb]; exact heap_new (by simp)
  have b0 : W2.cell? ⟨bb, 0, none⟩ = some (.int .i64 u.ring) := cell_at bT rfl
  have b1 : W2.cell? ⟨bb, 1, none⟩ = some (.int .i64 u.speed) := cell_at bT rfl
  have b2 : W2.cell? ⟨bb, 2, none⟩ = some (.int .i64 u.loss) := cell_at bT rfl
  have b3 : W2.cell? ⟨bb, 3, none⟩ = some (.int .i64 u.clear) := cell_at bT rfl
  have b4 : W2.cell? ⟨bb, 4, none⟩ = some (.int .i64 u.soft) := cell_at bT rfl
  have b5 : W2.cell? ⟨bb, 5, none⟩ = some (.int .i64 v.sx) := cell_at bT rfl
  have b6 : W2.cell? ⟨bb, 6, none⟩ = some (.int .i64 v.sy) := cell_at bT rfl
  have b7 : W2.cell? ⟨bb, 7, none⟩ = some (.int .i64 v.dx) := cell_at bT rfl
  have b8 : W2.cell? ⟨bb, 8, none⟩ = some (.int .i64 v.dy) := cell_at bT rfl
  have b9 : W2.cell? ⟨bb, 9, none⟩ = some (.int .i64 N) := cell_at bT rfl
  have b10 : W2.cell? ⟨bb, 10, none⟩ = some (.slice A n cap) := cell_at bT rfl
  have hsc : (w1.alloc (Obj.cells #[.int .i64 u.ring, .int .i64 u.speed, .int .i64 u.loss, .int .i64 u.clear, .int .i64 u.soft, .int .i64 v.sx, .int .i64 v.sy, .int .i64 v.dx, .int .i64 v.dy, .int .i64 N, .slice A n cap] 162)).cell? ⟨w.heap.size + 1 + 1, 0, none⟩ = some (.slice S m scap) := by rw [← hW2]; exact a2
  clear bT hc1 hb1
  go_wp2_with fail
  rw [← hW2, ← hbb]
  clear hsc hW2 hbb
  refine (HP _ hB2).out.mono ?_
  rintro e w2 ⟨rfl, hb2⟩
  obtain ⟨hc2, -⟩ := bcell hb2
  have hB3 := hB2.call hb2 rfl
  have y2 : w.heap.size + 1 + 1 < w2.heap.size := Nat.lt_of_lt_of_le hz2 hb2.size
  have y3 : bb < w2.heap.size := Nat.lt_of_lt_of_le hz3 hb2.size
  have y4 : w.heap.size < w2.heap.size := by omega
  have d0 := (hc2 w.heap.size 4 (by omega)).trans a0
  have d2 := (hc2 (w.heap.size + 1 + 1) 0 (by omega)).trans a2
  have c0 := (hc2 bb 0 (by omega)).trans b0
  have c1 := (hc2 bb 1 (by omega)).trans b1
  have c2 := (hc2 bb 2 (by omega)).trans b2
  have c3 := (hc2 bb 3 (by omega)).trans b3
  have c4 := (hc2 bb 4 (by omega)).trans b4
  have c5 := (hc2 bb 5 (by omega)).trans b5
  have c6 := (hc2 bb 6 (by omega)).trans b6
  have c7 := (hc2 bb 7 (by omega)).trans b7
  have c8 := (hc2 bb 8 (by omega)).trans b8
  have c9 := (hc2 bb 9 (by omega)).trans b9
  have c10 := (hc2 bb 10 (by omega)).trans b10
  clear hc2 hb2 a0 a2 hz2 hz3 b0 b1 b2 b3 b4 b5 b6 b7 b8 b9 b10
  clear hB2 hB1
  go_wp2_with (first | (go_at_call 96; refine (c96 _ _ _ _).mono ?_; rintro e w' ⟨rfl, rfl⟩) | (go_at_call 94; refine (c94 _ 3 _ [Mo.all v u l, Mo.spans sh, Mo.range tk 1 4096] _ rfl (by omega) ?_).mono ?_; (first | exact RdS.of_new (by simp) rfl | exact RdS.drew (RdS.of_new (by simp) rfl)); rintro e w' ⟨rfl, rfl⟩))
  refine (HL _ (hB3.alloc hB3.size _)).out.mono ?_
  rintro e w4 ⟨g, rfl, hg, hge, hb4⟩
  have hB4 := (hB3.alloc hB3.size _).call hb4 rfl
  have hs4 := hb4.size
  simp at hs4 hge
  obtain ⟨hc4, -⟩ := bcell hb4
  obtain ⟨W5, hW5⟩ : ∃ W5, W5 = w4.alloc (Obj.cells #[.slice (some ⟨g, 0, none⟩) N N] 39) := ⟨_, rfl⟩
  obtain ⟨lb, hlb⟩ : ∃ lb, lb = w4.heap.size := ⟨_, rfl⟩
  have hB5 : Below w.heap.size w W5 := by rw [hW5]; exact hB4.alloc hB4.size _
  have hb5 : Below w4.heap.size w4 W5 := by rw [hW5]; exact (Below.refl _ _).alloc (Nat.le_refl _) _
  have x1 : w.heap.size + 1 + 1 < W5.heap.size := by rw [hW5]; simp; omega
  have x0 : w.heap.size < W5.heap.size := by omega
  have x2 : bb < W5.heap.size := by rw [hW5]; simp; omega
  have x3 : lb < W5.heap.size := by rw [hW5, hlb]; simp
  have hg4 : g < w4.heap.size := (Array.getElem?_eq_some_iff.1 hg).1
  have x4 : g < W5.heap.size := by rw [hW5]; simp; omega
  have hT : ∀ b o (x : Value), b < w2.heap.size → w2.cell? ⟨b, o, none⟩ = some x → W5.cell? ⟨b, o, none⟩ = some x := fun b o x hb hx =>
    ((bcell hb5).1 _ _ (by omega)).trans ((hc4 _ _ (by simp; omega)).trans (((bcell ((Below.refl w2.heap.size w2).alloc (Nat.le_refl _) _)).1 _ _ hb).trans hx))
  have p0 := hT _ _ _ y4 d0
  have p2 := hT _ _ _ y2 d2
  have q0 := hT _ _ _ y3 c0
  have q1 := hT _ _ _ y3 c1
  have q2 := hT _ _ _ y3 c2
  have q3 := hT _ _ _ y3 c3
  have q4 := hT _ _ _ y3 c4
  have pl : W5.cell? ⟨lb, 0, none⟩ = some (.slice (some ⟨g, 0, none⟩) N N) := by rw [hW5, hlb]; exact cell_at (heap_new (by simp)) rfl
  have hgt : ∀ t : Nat, t < N → Hid (W5.cell? ⟨g, t, none⟩ = some (.int .i64 (Mo.level v u l t))) := fun t ht => by
    show _ = _
    exact ((bcell hb5).1 _ _ hg4).trans (cell_at hg (by simpa using (hL2 t ht).out))
  have hsc : (w4.alloc (Obj.cells #[.slice (some ⟨g, 0, none⟩) N N] 39)).cell? ⟨w.heap.size, 4, none⟩ = some (.int .i64 N) := by rw [← hW5]; exact p0
  clear hT hc4 hb4 hb5 hg hs4 hge d0 d2 y2 y3 y4 c0 c1 c2 c3 c4 c5 c6 c7 c8 c9 c10
  go_wp2_with fail
  go_step3
  go_wp2_with fail
  rw [← hW5, ← hlb]
  clear hsc hW5 hlb
  refine (HR _ _ _ W5 (fun W k hk hW => ?_)).out.mono ?_
  · obtain ⟨hcW, -⟩ := bcell hW
    have hsz := hW.size
    exact (HQ k g lb bb _ W hk (by omega) (by omega) (by omega) (by omega) ((hcW _ _ x3).trans pl) ((hcW _ _ x4).trans (hgt k hk).out) ((hcW _ _ x2).trans q0) ((hcW _ _ x2).trans q1) ((hcW _ _ x2).trans q2) ((hcW _ _ x2).trans q3) ((hcW _ _ x2).trans q4) ((hcW _ _ x1).trans p2) (hB5.call hW rfl)).out
  rintro e w6 ⟨x, rfl, hx, hb6⟩
  obtain ⟨LA, lcap, rfl, hRR⟩ := hx
  have hB6 := hB5.call hb6 rfl
  have hbd := Mo.runs_bd (Mo.winP v u l sh) N
  have hrl := Mo.runs_len (Mo.winP v u l sh) N
  obtain ⟨rs, hrs⟩ : ∃ rs, rs = Mo.runs (Mo.winP v u l sh) N := ⟨_, rfl⟩
  rw [← hrs] at hRR hbd hrl
  have Hrs := Lib.hid hrs
  have HX : RdL w6 2 Spn.enc LA rs := hRR
  obtain ⟨r, hr⟩ : ∃ r, r = rs.length := ⟨_, rfl⟩
  rw [← hrs, ← hr]
  rw [← hr] at hrl
  clear hrs
  have Hr := Lib.hid hr
  have HBD := Lib.hid hbd
  clear hr hbd hRR hL2 hgt HQ HR HL HC HP pl q0 q1 q2 q3 q4 p2 p0 hb6 x0 x1 x2 x3 x4
  go_wp2
  go_loopw [16,17,44] (fun at_ found i wr => ∃ k : Nat, k ≤ r ∧ at_ = .int .i64 0 ∧ found = .bool false ∧ i = .int .i64 k ∧ Below w.heap.size w wr ∧ Below w6.heap.size w6 wr ∧ rs.find? (fun s => decide (tk ≤ s.t - s.f)) = (rs.drop k).find? (fun s => decide (tk ≤ s.t - s.f))) (fun _ _ i _ => r - (intOf i).toNat)
  case atStart => exact ⟨0, Nat.zero_le _, rfl, rfl, rfl, hB6, Below.refl _ _, rfl⟩
  case round =>
    obtain ⟨k, hk, rfl, rfl, rfl, hBr, hBr6, he⟩ := hrel
    have HE := Lib.hid he
    clear he
    by_cases hlt : k < r
    · obtain ⟨b, off, s, rfl, hx, hb, hc⟩ := (HX.below hBr6).at Spn.len (by rw [← Hr.out]; exact hlt)
      have q0 : wr.cell? ⟨b, off + k * 2, none⟩ = some (.int .i64 s.f) := hc 0 (by omega)
      have q1 : wr.cell? ⟨b, off + k * 2 + 1, none⟩ = some (.int .i64 s.t) := hc 1 (by omega)
      have hs := HBD.out s (List.mem_of_getElem? hx)
      have ew : IntKind.i64.wrap (s.t - s.f) = s.t - s.f := IntWalk.i64_in _ (by omega)
      have hst := Lib.hid (Mo.find_step (fun s => decide (tk ≤ s.t - s.f)) hx)
      clear hc hx
      by_cases hge : tk ≤ s.t - s.f
      · have hfin : Hid (Mo.findW (Mo.runs (Mo.winP v u l sh) N) tk = (s.f, 0)) := by
          show _ = _
          rw [← Hrs.out]; unfold Mo.findW; rw [HE.out, hst.out]; simp [hge]
        go_wp2_with (first | (go_at_call 100; refine (c100 _ _ _).mono ?_; rintro e w' ⟨rfl, rfl⟩))
        rw [Exit.noGoto_ret]
        go_ret2
        exact ⟨by rw [hfin.out]; rfl, hBr.alloc hBr.size _⟩
      · have HST : Hid (rs.find? (fun s => decide (tk ≤ s.t - s.f)) = (rs.drop (k + 1)).find? (fun s => decide (tk ≤ s.t - s.f))) := by
          show _ = _
          rw [HE.out, hst.out]; simp [hge]
        go_wp2
        go_roundw
        case rel => exact ⟨k+1, by omega, rfl, rfl, by go_num, hBr.alloc hBr.size _, hBr6.alloc hBr6.size _, HST.out⟩
        case measure => simp [intOf]; omega
    · have hfin : Hid (Mo.findW (Mo.runs (Mo.winP v u l sh) N) tk = (0, 7)) := by
        show _ = _
        rw [← Hrs.out]; unfold Mo.findW; rw [HE.out, List.drop_eq_nil_of_le (by rw [← Hr.out]; omega)]; rfl
      go_wp2_with (first | (go_at_call 100; refine (c100 _ _ _).mono ?_; rintro e w' ⟨rfl, rfl⟩))
      rw [Exit.noGoto_ret]
      go_ret2
      exact ⟨by rw [hfin.out]; rfl, hBr⟩

end Go.Proofs.YtndhjkammoeikaaGreatDoor
namespace Go.Proofs.YtndhjkammoeikaaGreatDoor
open Go.RowKit
set_option maxHeartbeats 1000000
set_option maxRecDepth 20000

def Mo.allp (p : Nat → Bool) (a : Nat) : Nat → Bool
  | 0 => true
  | d+1 => Mo.allp p a d && p (a + d)
def Mo.search (p : Nat → Bool) (K N : Nat) : Int × Int := match (List.range (N + 1 - K)).find? (fun t => Mo.allp p t K) with
  | some t => ((t : Int), 0)
  | none => (0, 7)
theorem Mo.range_find (q : Nat → Bool) (M t : Nat) (h : t < M) : ((List.range M).drop t).find? q = if q t then some t else ((List.range M).drop (t + 1)).find? q := by
  rw [List.drop_eq_getElem_cons (by simpa using h), List.find?_cons]
  simp
  cases q t <;> rfl
theorem c41_bad (v : Ves) (u : Wat) (A : Option Addr) (cap : Nat) (l : List Sgt) (S : Option Addr) (scap : Nat) (sh : List Spn) (tk : Int) (w : World) (hl : l.length ≤ 1000000) (H : RdL w 3 Sgt.enc A l) (hls : sh.length ≤ 1000000) (HS : RdL w 2 Spn.enc S sh) (hbad : Mo.winE v u l sh tk ≠ 0) :
    Calls Tryz.prog 41 #[.agg #[.int .i64 v.sx, .int .i64 v.sy, .int .i64 v.dx, .int .i64 v.dy, .int .i64 v.n], .agg #[.int .i64 u.ring, .int .i64 u.speed, .int .i64 u.loss, .int .i64 u.clear, .int .i64 u.soft], .slice A l.length cap, .slice S sh.length scap, .int .i64 tk] w fun en w' => en = .returned (.tuple #[.int .i64 0, .int .i64 (Mo.winE v u l sh tk)]) ∧ Below w.heap.size w w' := by
  have hb' : (Mo.first [Mo.all v u l, Mo.spans sh, Mo.range tk 1 4096] != 0) = true := by have h := hbad; unfold Mo.winE at h; simpa using h
  have HC := fun W (hW : Below w.heap.size w W) => Lib.hid (c20 v u A cap l W hl (H.below hW))
  have HP := fun W (hW : Below w.heap.size w W) => Lib.hid (c48 S scap sh W hls (HS.below hW))
  obtain ⟨n, hn⟩ : ∃ n, n = l.length := ⟨_, rfl⟩
  obtain ⟨m, hm⟩ : ∃ m, m = sh.length := ⟨_, rfl⟩
  rw [← hn] at HC ⊢
  rw [← hm] at HP ⊢
  clear H HS hbad hn hm hl hls
  go_enter Tryz.func41, Tryz.ntmps41
  go_wp2_with fail
  refine (HC _ ?_).out.mono ?_
  · exact (((Below.refl _ _).alloc (by first | omega | (simp <;> omega)) _).alloc (by first | omega | (simp <;> omega)) _)
  rintro e w1 ⟨rfl, hb1⟩
  have hB1 := (((Below.refl _ _).alloc (by first | omega | (simp <;> omega)) _).alloc (by first | omega | (simp <;> omega)) _).call hb1 rfl
  clear hb1
  go_wp2_with fail
  refine (HP _ hB1).out.mono ?_
  rintro e w2 ⟨rfl, hb2⟩
  have hB2 := hB1.call hb2 rfl
  clear hb2
  go_wp2_with (first | (go_at_call 49; refine (c49 _ _ _ _).mono ?_; rintro e w' ⟨rfl, rfl⟩) | (go_at_call 92; refine (c92 _ 3 _ [Mo.all v u l, Mo.spans sh, Mo.range tk 1 4096] _ rfl (by omega) ?_).mono ?_; (first | exact RdS.of_new (by simp) rfl | exact RdS.drew (RdS.of_new (by simp) rfl)); rintro e w' ⟨rfl, rfl⟩))
  go_ret2
  exact ⟨rfl, hB2.alloc hB2.size _⟩
theorem c41_ok (v : Ves) (u : Wat) (A : Option Addr) (cap : Nat) (l : List Sgt) (S : Option Addr) (scap : Nat) (sh : List Spn) (tk : Int) (w : World) (H : RdL w 3 Sgt.enc A l) (HS : RdL w 2 Spn.enc S sh) (hok : Mo.winE v u l sh tk = 0) :
    Calls Tryz.prog 41 #[.agg #[.int .i64 v.sx, .int .i64 v.sy, .int .i64 v.dx, .int .i64 v.dy, .int .i64 v.n], .agg #[.int .i64 u.ring, .int .i64 u.speed, .int .i64 u.loss, .int .i64 u.clear, .int .i64 u.soft], .slice A l.length cap, .slice S sh.length scap, .int .i64 tk] w fun en w' => en = .returned (.tuple #[.int .i64 (Mo.search (Mo.winP v u l sh) tk.toNat v.n.toNat).1, .int .i64 (Mo.search (Mo.winP v u l sh) tk.toNat v.n.toNat).2]) ∧ Below w.heap.size w w' := by
  have h0 := Mo.first_zero hok
  have hall : Mo.all v u l = 0 := h0 _ (by simp)
  have hsp : Mo.spans sh = 0 := h0 _ (by simp)
  have hrg : Mo.range tk 1 4096 = 0 := h0 _ (by simp)
  have hb' : (Mo.first [Mo.all v u l, Mo.spans sh, Mo.range tk 1 4096] != 0) = false := by have h := hok; unfold Mo.winE at h; simpa using h
  obtain ⟨hv, hu, hlen, hso⟩ := Mo.all_ok hall
  obtain ⟨hsl, hsb⟩ := Mo.spans_ok hsp
  have hvn := hv.n
  have hus := hu.soft
  obtain ⟨N, hN⟩ : ∃ N : Nat, v.n = N := ⟨v.n.toNat, by omega⟩
  have hNN : v.n.toNat = N := by omega
  have hN1 : 1 ≤ N ∧ N ≤ 4096 := by omega
  have htk : 1 ≤ tk ∧ tk ≤ 4096 := Mo.range_zero hrg
  obtain ⟨K, hK⟩ : ∃ K : Nat, tk = K := ⟨tk.toNat, by omega⟩
  subst hK
  have hK1 : 1 ≤ K ∧ K ≤ 4096 := by omega
  have HC := fun W (hW : Below w.heap.size w W) => Lib.hid (c20 v u A cap l W (by omega) (H.below hW))
  have HP := fun W (hW : Below w.heap.size w W) => Lib.hid (c48 S scap sh W (by omega) (HS.below hW))
  have HL := fun W (hW : Below w.heap.size w W) => Lib.hid (c22 v u A cap l W (H.below hW) hall)
  have HI := fun (k : Int) W (hW : Below w.heap.size w W) => Lib.hid (c110 S scap sh k W (by omega) (HS.below hW))
  have hL2 : ∀ t : Nat, t < N → Hid (((Mo.levels v u l).map (Value.int .i64))[t]? = some (.int .i64 (Mo.level v u l t))) := fun t ht => by
    show _ = _
    unfold Mo.levels; rw [hNN]; simp [ht]
  have hLlen : (Mo.levels v u l).length = N := by unfold Mo.levels; simp [hNN]
  have eus : IntKind.i64.wrap (u.soft + 1) = u.soft + 1 := IntWalk.i64_in _ (by omega)
  have hp : Hid (∀ t, Mo.winP v u l sh t = ((Mo.level v u l t == u.soft + 1) && Mo.inSp sh t)) := fun t => rfl
  rw [hNN] at HL ⊢
  simp only [Int.toNat_natCast]
  rw [hN]
  simp only [hN] at HC HL
  clear h0 hrg hsp hok hso hv hu H HS hN hvn hNN hall hus htk
  obtain ⟨n, hn⟩ : ∃ n, n = l.length := ⟨_, rfl⟩
  obtain ⟨m, hm⟩ : ∃ m, m = sh.length := ⟨_, rfl⟩
  rw [← hn] at HC HL ⊢
  rw [← hm] at HP HI ⊢
  clear hn hm hlen hsl hsb
  obtain ⟨P, hP⟩ : ∃ P, P = Mo.winP v u l sh := ⟨_, rfl⟩
  rw [← hP]
  have HPp : Hid (∀ t, P t = ((Mo.level v u l t == u.soft + 1) && Mo.inSp sh t)) := by show ∀ t, _; rw [hP]; exact hp.out
  clear hP hp
  obtain ⟨W, hW⟩ : ∃ W, W = (w.alloc (Obj.cells #[.int .i64 v.sx, .int .i64 v.sy, .int .i64 v.dx, .int .i64 v.dy, .int .i64 N] 25)).alloc (Obj.cells #[.int .i64 u.ring, .int .i64 u.speed, .int .i64 u.loss, .int .i64 u.clear, .int .i64 u.soft] 27) := ⟨_, rfl⟩
  have hT0 : W.heap[w.heap.size]? = some (.cells #[.int .i64 v.sx, .int .i64 v.sy, .int .i64 v.dx, .int .i64 v.dy, .int .i64 N] 25 (0, 0)) := by rw [hW]; exact heap_old (by simp <;> omega) (heap_new (by simp))
  have h0_0 : W.cell? ⟨w.heap.size, 0, none⟩ = some (.int .i64 v.sx) := cell_at hT0 rfl
  have h0_1 : W.cell? ⟨w.heap.size, 1, none⟩ = some (.int .i64 v.sy) := cell_at hT0 rfl
  have h0_2 : W.cell? ⟨w.heap.size, 2, none⟩ = some (.int .i64 v.dx) := cell_at hT0 rfl
  have h0_3 : W.cell? ⟨w.heap.size, 3, none⟩ = some (.int .i64 v.dy) := cell_at hT0 rfl
  have h0_4 : W.cell? ⟨w.heap.size, 4, none⟩ = some (.int .i64 N) := cell_at hT0 rfl
  have hT1 : W.heap[w.heap.size + 1]? = some (.cells #[.int .i64 u.ring, .int .i64 u.speed, .int .i64 u.loss, .int .i64 u.clear, .int .i64 u.soft] 27 (0, 0)) := by rw [hW]; exact heap_new (by simp)
  have h1_0 : W.cell? ⟨w.heap.size + 1, 0, none⟩ = some (.int .i64 u.ring) := cell_at hT1 rfl
  have h1_1 : W.cell? ⟨w.heap.size + 1, 1, none⟩ = some (.int .i64 u.speed) := cell_at hT1 rfl
  have h1_2 : W.cell? ⟨w.heap.size + 1, 2, none⟩ = some (.int .i64 u.loss) := cell_at hT1 rfl
  have h1_3 : W.cell? ⟨w.heap.size + 1, 3, none⟩ = some (.int .i64 u.clear) := cell_at hT1 rfl
  have h1_4 : W.cell? ⟨w.heap.size + 1, 4, none⟩ = some (.int .i64 u.soft) := cell_at hT1 rfl
  have hs : w.heap.size + 2 = W.heap.size := by rw [hW]; simp
  have hB : Below w.heap.size w W := by rw [hW]; exact (((Below.refl _ _).alloc (by first | omega | (simp <;> omega)) _).alloc (by first | omega | (simp <;> omega)) _)
  have hs0 : w.heap.size < W.heap.size := by omega
  have hs1 : w.heap.size + 1 < W.heap.size := by omega
  clear hT0 hT1 hs
  go_enter Tryz.func41, Tryz.ntmps41
  go_wp2_with fail
  rw [← hW]
  clear hW
  refine (HC _ hB).out.mono ?_
  rintro e w1 ⟨rfl, hb1⟩
  have hB1 := fin0 hB hb1
  go_wp2_with fail
  refine (HP _ hB1).out.mono ?_
  rintro e w2 ⟨rfl, hb2⟩
  have hb2' := fin0 hb1 hb2
  have hB2 := fin0 hB hb2'
  obtain ⟨hcr, -⟩ := bcell hb2'
  have y0 : w.heap.size < w2.heap.size := Nat.lt_of_lt_of_le hs0 hb2'.size
  have y1 : w.heap.size + 1 < w2.heap.size := Nat.lt_of_lt_of_le hs1 hb2'.size
  have e0 : w2.cell? ⟨w.heap.size, 0, none⟩ = some (.int .i64 v.sx) := (hcr _ _ hs0).trans h0_0
  have e1 : w2.cell? ⟨w.heap.size, 1, none⟩ = some (.int .i64 v.sy) := (hcr _ _ hs0).trans h0_1
  have e2 : w2.cell? ⟨w.heap.size, 2, none⟩ = some (.int .i64 v.dx) := (hcr _ _ hs0).trans h0_2
  have e3 : w2.cell? ⟨w.heap.size, 3, none⟩ = some (.int .i64 v.dy) := (hcr _ _ hs0).trans h0_3
  have e4 : w2.cell? ⟨w.heap.size, 4, none⟩ = some (.int .i64 N) := (hcr _ _ hs0).trans h0_4
  have f0 : w2.cell? ⟨w.heap.size + 1, 0, none⟩ = some (.int .i64 u.ring) := (hcr _ _ hs1).trans h1_0
  have f1 : w2.cell? ⟨w.heap.size + 1, 1, none⟩ = some (.int .i64 u.speed) := (hcr _ _ hs1).trans h1_1
  have f2 : w2.cell? ⟨w.heap.size + 1, 2, none⟩ = some (.int .i64 u.loss) := (hcr _ _ hs1).trans h1_2
  have f3 : w2.cell? ⟨w.heap.size + 1, 3, none⟩ = some (.int .i64 u.clear) := (hcr _ _ hs1).trans h1_3
  have f4 : w2.cell? ⟨w.heap.size + 1, 4, none⟩ = some (.int .i64 u.soft) := (hcr _ _ hs1).trans h1_4
  clear hcr hb1 hb2 hB1 h0_0 h0_1 h0_2 h0_3 h0_4 h1_0 h1_1 h1_2 h1_3
  go_wp2_with (first | (go_at_call 49; refine (c49 _ _ _ _).mono ?_; rintro e w' ⟨rfl, rfl⟩) | (go_at_call 92; refine (c92 _ 3 _ [Mo.all v u l, Mo.spans sh, Mo.range (K : Int) 1 4096] _ rfl (by omega) ?_).mono ?_; (first | exact RdS.of_new (by simp) rfl | exact RdS.drew (RdS.of_new (by simp) rfl)); rintro e w' ⟨rfl, rfl⟩))
  refine (HL _ (hB2.alloc hB2.size _)).out.mono ?_
  rintro e w4 ⟨x, rfl, hx, hb4⟩
  obtain ⟨LA, lcap, rfl, hR⟩ := hx
  have hbW := (hb2'.alloc hb2'.size _).call hb4 rfl
  have HR := Lib.hid hR
  clear hR hb4 y0 y1 e0 e1 e2 e3 e4 f0 f1 f2 f3 f4
  clear HP HC HL
  go_wp2
  go_loopg [14] (N + 1) (fun g x wr => ∃ t : Nat, t + g = N + 1 ∧ x = .int .i64 t ∧ Below W.heap.size W wr ∧ Below w4.heap.size w4 wr ∧ (List.range (N + 1 - K)).find? (fun t => Mo.allp P t K) = ((List.range (N + 1 - K)).drop t).find? (fun t => Mo.allp P t K))
  case atStart => exact ⟨0, by omega, rfl, hbW, Below.refl _ _, rfl⟩
  case round =>
    obtain ⟨t, htg, rfl, hBr, hBr4, he⟩ := hrel
    have HE := Lib.hid he
    clear he
    have etk : IntKind.i64.wrap ((t : Int) + (K : Int)) = (t : Int) + (K : Int) := IntWalk.i64_in _ (by omega)
    by_cases hlt : t + K ≤ N
    · have hle : (t : Int) + (K : Int) ≤ (N : Int) := by omega
      go_wp2
      go_loopg [15, 16] K (fun g a j wq => ∃ (b : Bool) (i : Nat), i + g = t + K ∧ t ≤ i ∧ b = Mo.allp P t (i - t) ∧ a = .bool b ∧ j = .int .i64 i ∧ Below W.heap.size W wq ∧ Below w4.heap.size w4 wq)
      case atStart => exact ⟨true, t, rfl, Nat.le_refl _, by simp [Mo.allp], rfl, rfl, hBr, hBr4⟩
      case round =>
        obtain ⟨b, i, hig, hti, hb, rfl, rfl, hBq, hBq4⟩ := hrel
        have HB := Lib.hid hb
        clear hb
        by_cases hi : i < t + K
        · have hi' : (i : Int) < (t : Int) + (K : Int) := by omega
          have hiN : i < N := by omega
          have hstep : Hid (Mo.allp P t (i + 1 - t) = (b && P i)) := by
            show _ = _
            obtain ⟨d, rfl⟩ : ∃ d, i = t + d := ⟨i - t, by omega⟩
            have e1 : t + d + 1 - t = d + 1 := by omega
            have e2 : t + d - t = d := by omega
            rw [e1, HB.out, e2]; rfl
          cases b
          · go_wp2
            refine wp_region_growG (by kernel_rfl) (by kernel_rfl) ?_
            repeat (go_big_quiet_step ((first | fail)))
            refine wpQuiet_nil (gw_out ?_)
            intro w5 hb5
            go_wp2
            go_roundg (t + K - (i + 1))
            case measure => omega
            case rel => exact ⟨false, i + 1, by omega, by omega, by rw [hstep.out]; rfl, rfl, by go_num, fin0 hBq hb5, fin0 hBq4 hb5⟩
          · obtain ⟨lb, loff, hLA, hlb, hlc⟩ := (HR.out.below hBq4).at hiN
            have q2 : wr.cell? ⟨lb, loff + i, none⟩ = some (.int .i64 (Mo.level v u l i)) := by have := hlc 0 (by omega); simp only [Nat.mul_one, Nat.add_zero] at this; rw [this]; exact (hL2 i hiN).out
            have f4 : wr.cell? ⟨w.heap.size + 1, 4, none⟩ = some (.int .i64 u.soft) := ((bcell hBq).1 _ _ hs1).trans h1_4
            have hz1 : w.heap.size + 1 < wr.heap.size := Nat.lt_of_lt_of_le hs1 hBq.size
            have hx1 : (0 : Int) ≤ (i : Int) := by omega
            have hx2 : (i : Int) < (N : Int) := by omega
            have hBw := fin0 hB hBq
            have hPi := HPp.out i
            subst hLA
            clear hlc
            cases hx : (Mo.level v u l i == u.soft + 1)
            · have hst2 : Hid (Mo.allp P t (i + 1 - t) = false) := by show _ = _; rw [hstep.out, hPi, hx]; rfl
              clear hPi
              go_wp2
              refine wp_region_growG (by kernel_rfl) (by kernel_rfl) ?_
              repeat (go_big_quiet_step ((first | fail)))
              refine wpQuiet_nil (gw_out ?_)
              intro w5 hb5
              go_wp2
              go_roundg (t + K - (i + 1))
              case measure => omega
              case rel => exact ⟨false, i + 1, by omega, by omega, hst2.out.symm, rfl, by go_num, fin0 hBq hb5, fin0 hBq4 hb5⟩
            · have hst2 : Hid (Mo.allp P t (i + 1 - t) = Mo.inSp sh i) := by show _ = _; rw [hstep.out, hPi, hx]; rfl
              clear hPi
              go_wp2
              refine wp_region_growG (by kernel_rfl) (by kernel_rfl) ?_
              repeat (go_big_quiet_step ((first | (go_at_call 110; exact Calls.gw_of ((HI (i : Int) _ (hBw.call (Go.gw_below _ _) rfl)).out)))))
              refine wpQuiet_nil (gw_out ?_)
              intro w5 hb5
              go_wp2
              go_roundg (t + K - (i + 1))
              case measure => omega
              case rel => exact ⟨Mo.inSp sh i, i + 1, by omega, by omega, hst2.out.symm, rfl, by go_num, fin0 hBq hb5, fin0 hBq4 hb5⟩
        · obtain rfl : i = t + K := by omega
          have e2 : t + K - t = K := by omega
          rw [e2] at HB
          have hnl : ¬ (((t + K : Nat) : Int) < (t : Int) + (K : Int)) := by omega
          have hMt : t < N + 1 - K := by omega
          cases b
          · have hst3 : Hid ((List.range (N + 1 - K)).find? (fun t => Mo.allp P t K) = ((List.range (N + 1 - K)).drop (t + 1)).find? (fun t => Mo.allp P t K)) := by
              show _ = _
              rw [HE.out, Mo.range_find _ _ _ hMt, if_neg (by rw [← HB.out]; simp)]
            go_wp2
            go_roundg (N - t)
            case measure => omega
            case rel => exact ⟨t + 1, by omega, by go_num, hBq, hBq4, hst3.out⟩
          · have hfin : Hid (Mo.search P K N = ((t : Int), 0)) := by
              show _ = _
              unfold Mo.search; rw [HE.out, Mo.range_find _ _ _ hMt, if_pos (by rw [← HB.out])]
            go_wp2
            go_ret2
            exact ⟨by rw [hfin.out]; rfl, fin0 hB hBq⟩
    · have hle : ¬ ((t : Int) + (K : Int) ≤ (N : Int)) := by omega
      have hfin : Hid (Mo.search P K N = (0, 7)) := by
        show _ = _
        unfold Mo.search; rw [HE.out, List.drop_eq_nil_of_le (by simp; omega)]; rfl
      go_wp2
      go_ret2
      exact ⟨by rw [hfin.out]; rfl, fin0 hB hBr⟩

end Go.Proofs.YtndhjkammoeikaaGreatDoor
namespace Go.Proofs.YtndhjkammoeikaaGreatDoor
namespace Mo
def tail (p : Nat → Bool) : Nat → Nat
  | 0 => 0
  | n+1 => if p n then tail p n + 1 else 0
theorem tail_le (p : Nat → Bool) (n : Nat) : tail p n ≤ n := by
  induction n with
  | zero => exact Nat.le_refl _
  | succ n ih => unfold tail; split <;> omega
theorem runs_last (p : Nat → Bool) (N : Nat) : (0 < tail p N → ∃ r, runs p N = r ++ [⟨((N - tail p N : Nat) : Int), N⟩]) ∧ (tail p N = 0 → ∀ s ∈ runs p N, s.t < N) ∧ (0 < tail p N → ∀ s ∈ (runs p N).dropLast, s.t < N) := by
  induction N with
  | zero => refine ⟨fun h => ?_, fun _ s h => ?_, fun h => ?_⟩ <;> simp [tail, runs] at h
  | succ N ih =>
    obtain ⟨i1, i2, i3⟩ := ih
    have hle := tail_le p N
    cases hp : p N
    · have e : tail p (N+1) = 0 := by unfold tail; simp [hp]
      have er : runs p (N+1) = runs p N := by rw [runs]; simp [hp]
      rw [e, er]
      refine ⟨fun h => absurd h (by omega), fun _ s hs => ?_, fun h => absurd h (by omega)⟩
      have := (runs_bd p N s hs).2.2
      omega
    · have e : tail p (N+1) = tail p N + 1 := by rw [tail]; simp [hp]
      have er : runs p (N+1) = runsStep (runs p N) N := by rw [runs]; simp [hp]
      rw [e, er]
      by_cases h0 : 0 < tail p N
      · obtain ⟨r, hr⟩ := i1 h0
        rw [hr, runsStep_eq _ _ _ rfl]
        refine ⟨fun _ => ⟨r, ?_⟩, fun h => absurd h (by omega), fun _ s hs => ?_⟩
        · have : N + 1 - (tail p N + 1) = N - tail p N := by omega
          rw [this]; simp
        · have := i3 h0 s (by rw [hr]; simpa using hs)
          omega
      · have hz : tail p N = 0 := by omega
        have hlt := i2 hz
        rw [hz]
        have hb : runsStep (runs p N) N = runs p N ++ [⟨N, N + 1⟩] := by
          rcases List.eq_nil_or_concat (runs p N) with h | ⟨r', s', h⟩
          · rw [h]; rfl
          · rw [List.concat_eq_append] at h
            rw [h, runsStep_ne]
            have := hlt s' (by rw [h]; simp)
            omega
        rw [hb]
        refine ⟨fun _ => ⟨runs p N, by simp⟩, fun h => absurd h (by omega), fun _ s hs => ?_⟩
        have := hlt s (by simpa using hs)
        omega
def fw (K : Nat) (rs : List Spn) : Option Int := (rs.find? (fun s => decide ((K : Int) ≤ s.t - s.f))).map Spn.f
def fs (p : Nat → Bool) (K N : Nat) : Option Int := ((List.range (N + 1 - K)).find? (fun t => allp p t K)).map (fun t : Nat => (t : Int))
theorem fw_step (p : Nat → Bool) (K N : Nat) (hK : 1 ≤ K) : fw K (runs p (N+1)) = match fw K (runs p N) with
    | some x => some x
    | none => if K ≤ tail p (N+1) then some ((N + 1 - K : Nat) : Int) else none := by
  obtain ⟨i1, i2, i3⟩ := runs_last p N
  have hle := tail_le p N
  cases hp : p N
  · have e : tail p (N+1) = 0 := by unfold tail; simp [hp]
    have er : runs p (N+1) = runs p N := by rw [runs]; simp [hp]
    rw [e, er, if_neg (by omega)]
    cases fw K (runs p N) <;> rfl
  · have e : tail p (N+1) = tail p N + 1 := by rw [tail]; simp [hp]
    have er : runs p (N+1) = runsStep (runs p N) N := by rw [runs]; simp [hp]
    rw [e, er]
    by_cases h0 : 0 < tail p N
    · obtain ⟨r, hr⟩ := i1 h0
      rw [hr, runsStep_eq _ _ _ rfl]
      unfold fw
      rw [List.find?_append, List.find?_append]
      cases hf : r.find? (fun s => decide ((K : Int) ≤ s.t - s.f)) with
      | some s => simp
      | none =>
        simp only [Option.none_or, List.find?_cons, List.find?_nil]
        by_cases h1 : K ≤ tail p N
        · rw [show decide ((K : Int) ≤ (N : Int) - ((N - tail p N : Nat) : Int)) = true by simp; omega, show decide ((K : Int) ≤ (N : Int) + 1 - ((N - tail p N : Nat) : Int)) = true by simp; omega]
          simp
        · rw [show decide ((K : Int) ≤ (N : Int) - ((N - tail p N : Nat) : Int)) = false by simp; omega]
          by_cases h2 : K ≤ tail p N + 1
          · rw [show decide ((K : Int) ≤ (N : Int) + 1 - ((N - tail p N : Nat) : Int)) = true by simp; omega]
            simp [h2]; omega
          · rw [show decide ((K : Int) ≤ (N : Int) + 1 - ((N - tail p N : Nat) : Int)) = false by simp; omega]
            simp [h2]
    · have hz : tail p N = 0 := by omega
      have hlt := i2 hz
      have hb : runsStep (runs p N) N = runs p N ++ [⟨N, N + 1⟩] := by
        rcases List.eq_nil_or_concat (runs p N) with h | ⟨r', s', h⟩
        · rw [h]; rfl
        · rw [List.concat_eq_append] at h
          rw [h, runsStep_ne]
          have := hlt s' (by rw [h]; simp)
          omega
      rw [hb, hz]
      unfold fw
      rw [List.find?_append]
      cases hf : (runs p N).find? (fun s => decide ((K : Int) ≤ s.t - s.f)) with
      | some s => simp
      | none =>
        simp only [Option.none_or, List.find?_cons, List.find?_nil]
        by_cases h2 : K ≤ 0 + 1
        · rw [show decide ((K : Int) ≤ (N : Int) + 1 - (N : Int)) = true by simp; omega]
          simp [h2]; omega
        · rw [show decide ((K : Int) ≤ (N : Int) + 1 - (N : Int)) = false by simp; omega]
          simp [h2]
theorem allp_tail (p : Nat → Bool) (t d : Nat) : allp p t d = decide (d ≤ tail p (t + d)) := by
  induction d with
  | zero => simp [allp]
  | succ d ih =>
    rw [allp, ih, ← Nat.add_assoc, tail]
    cases p (t + d) <;> simp
theorem fs_step (p : Nat → Bool) (K N : Nat) (hK : 1 ≤ K) : fs p K (N+1) = match fs p K N with
    | some x => some x
    | none => if K ≤ tail p (N+1) then some ((N + 1 - K : Nat) : Int) else none := by
  unfold fs
  by_cases h : K ≤ N + 1
  · rw [show N + 1 + 1 - K = (N + 1 - K) + 1 by omega, List.range_succ, List.find?_append]
    cases hf : (List.range (N + 1 - K)).find? (fun t => allp p t K) with
    | some s => simp
    | none =>
      simp only [Option.none_or, List.find?_cons, List.find?_nil]
      rw [allp_tail, show N + 1 - K + K = N + 1 by omega]
      by_cases h2 : K ≤ tail p (N + 1) <;> simp [h2]
  · rw [show N + 1 + 1 - K = 0 by omega, show N + 1 - K = 0 by omega]
    have := tail_le p (N + 1)
    simp; omega
theorem fw_fs (p : Nat → Bool) (K N : Nat) (hK : 1 ≤ K) : fw K (runs p N) = fs p K N := by
  induction N with
  | zero =>
    unfold fw fs
    rw [show 0 + 1 - K = 0 by omega]; rfl
  | succ N ih => rw [fw_step p K N hK, fs_step p K N hK, ih]
theorem findW_search (p : Nat → Bool) (K : Int) (N : Nat) (hK : 1 ≤ K) : findW (runs p N) K = search p K.toNat N := by
  obtain ⟨k, rfl⟩ : ∃ k : Nat, K = k := ⟨K.toNat, by omega⟩
  have h := fw_fs p k N (by omega)
  unfold fw fs at h
  unfold findW search
  rw [Int.toNat_natCast]
  cases h1 : (runs p N).find? (fun s => decide ((k : Int) ≤ s.t - s.f)) <;> cases h2 : (List.range (N + 1 - k)).find? (fun t => allp p t k) <;> rw [h1, h2] at h <;> simp_all
end Mo
end Go.Proofs.YtndhjkammoeikaaGreatDoor
namespace Go.Proofs.YtndhjkammoeikaaGreatDoor
open Go.RowKit
set_option maxHeartbeats 1000000
set_option maxRecDepth 20000

theorem info98 : (Tryz.prog.info? 98).map (fun i => (i.zero, i.size, i.bytes)) = some (some (.agg #[.int .i64 0, .int .i64 0]), 2, 16) := by kernel_rfl
theorem c35 (A : Option Addr) (cap : Nat) (l : List Fir) (w : World) (hl : l.length ≤ 1000000) (H : RdL w 2 Fir.enc A l) :
    Calls Tryz.prog 35 #[.slice A l.length cap] w fun en w' => ∃ x, en = .returned x ∧ Sl w' 2 x l.length (l.flatMap Fir.enc) ∧ Below w.heap.size w w' := by
  obtain ⟨i0, hi, hz0, hz1, hz2⟩ := info_parts info98
  obtain ⟨n, hn⟩ : ∃ n, n = l.length := ⟨_, rfl⟩
  rw [← hn] at hl ⊢
  have Hn := Lib.hid hn
  clear hn
  go_enter Tryz.func35, Tryz.ntmps35
  go_wp2
  go_loopw [3, 8] (fun x i wr => ∃ k : Nat, k ≤ n ∧ i = .int .i64 k ∧ wr.ownsRow w.heap.size 98 2 x k ((l.take k).flatMap Fir.enc) ∧ Below w.heap.size w wr) (fun _ i _ => n - (intOf i).toNat)
  case atStart => exact ⟨0, Nat.zero_le _, rfl, World.ownsRow_nil _ _ _ _, Below.refl _ _⟩
  case round =>
    obtain ⟨k, hk, rfl, hown, hB⟩ := hrel
    by_cases hlt : k < n
    · obtain ⟨b, off, s, rfl, hx, hb, hc⟩ := (H.below hB).at Fir.len (by rw [← Hn.out]; exact hlt)
      have q0 : wr.cell? ⟨b, off + k * 2, none⟩ = some (.int .i64 s.t) := hc 0 (by omega)
      have q1 : wr.cell? ⟨b, off + k * 2 + 1, none⟩ = some (.int .i64 s.v) := hc 1 (by omega)
      have hst : Hid ((l.take (k + 1)).flatMap Fir.enc = (l.take k).flatMap Fir.enc ++ [.int .i64 s.t, .int .i64 s.v]) := by
        show _ = _
        obtain ⟨hk', rfl⟩ := List.getElem?_eq_some_iff.1 hx
        rw [List.take_succ_eq_append_getElem hk', List.flatMap_append]; simp [Fir.enc]
      have hsz := hB.size
      have hown1 := own_below hown ((Below.refl wr.heap.size wr).alloc (Nat.le_refl _) (Obj.cells #[.int .i64 s.t, .int .i64 s.v] 183))
      have hB1 := hB.alloc hsz (Obj.cells #[.int .i64 s.t, .int .i64 s.v] 183)
      clear hc hx hown
      go_wp2_with (at_builtin; refine wpList_append_own _ rfl _ _ 64 rfl w.heap.size 98 i0 (.agg #[.int .i64 0, .int .i64 0]) 2 16 Tryz.underlying64 hi hz0 hz1 hz2 rfl (by decide) _ _ _ rfl (hown1.alloc _) ⟨wr.heap.size + 1, 0, none⟩ 1 1 [.int .i64 s.t, .int .i64 s.v] rfl rfl (news_one _ _ (by simp)) (by intro x hx; simp at hx; first | (subst hx; rfl) | (rcases hx with rfl | rfl <;> rfl) | (rcases hx with rfl | rfl | rfl <;> rfl)) (by unfold maxLen; omega) (by omega) (by simp; omega) ?_)
      intro x' w3 hown3 hg3 _
      have hB3 : Below w.heap.size w w3 := (hB1.alloc hB1.size _).grown hg3 (by simp; omega) (fun g hg => (hown1.lt g hg).1)
      rw [← hst.out] at hown3
      have HO := Lib.hid hown3
      clear hown3 hg3 hown1
      go_wp2
      go_roundw
      case rel => exact ⟨k + 1, by omega, by go_num, HO.out, hB3⟩
      case measure => simp [intOf]; omega
    · obtain rfl : k = n := by omega
      have hown' : wr.ownsRow w.heap.size 98 2 u3 k (l.flatMap Fir.enc) := by
        have h := hown
        rw [List.take_of_length_le (by rw [← Hn.out]; exact Nat.le_refl _)] at h
        exact h
      clear hown
      have HO := Lib.hid hown'
      clear hown'
      go_wp2
      go_ret
      exact ⟨_, rfl, Sl.of_own HO.out, hB⟩

theorem info166 : (Tryz.prog.info? 166).map (fun i => (i.zero, i.size, i.bytes)) = some (some (.agg #[.int .i64 0, .int .i64 0, .int .i64 0]), 3, 24) := by kernel_rfl
theorem c17 (A : Option Addr) (cap : Nat) (l : List Sgt) (w : World) (hl : l.length ≤ 1000000) (H : RdL w 3 Sgt.enc A l) :
    Calls Tryz.prog 17 #[.slice A l.length cap] w fun en w' => ∃ x, en = .returned x ∧ Sl w' 3 x l.length (l.flatMap Sgt.enc) ∧ Below w.heap.size w w' := by
  obtain ⟨i0, hi, hz0, hz1, hz2⟩ := info_parts info166
  obtain ⟨n, hn⟩ : ∃ n, n = l.length := ⟨_, rfl⟩
  rw [← hn] at hl ⊢
  have Hn := Lib.hid hn
  clear hn
  go_enter Tryz.func17, Tryz.ntmps17
  go_wp2
  go_loopw [3, 8] (fun x i wr => ∃ k : Nat, k ≤ n ∧ i = .int .i64 k ∧ wr.ownsRow w.heap.size 166 3 x k ((l.take k).flatMap Sgt.enc) ∧ Below w.heap.size w wr) (fun _ i _ => n - (intOf i).toNat)
  case atStart => exact ⟨0, Nat.zero_le _, rfl, World.ownsRow_nil _ _ _ _, Below.refl _ _⟩
  case round =>
    obtain ⟨k, hk, rfl, hown, hB⟩ := hrel
    by_cases hlt : k < n
    · obtain ⟨b, off, s, rfl, hx, hb, hc⟩ := (H.below hB).at Sgt.len (by rw [← Hn.out]; exact hlt)
      have q0 : wr.cell? ⟨b, off + k * 3, none⟩ = some (.int .i64 s.t) := hc 0 (by omega)
      have q1 : wr.cell? ⟨b, off + k * 3 + 1, none⟩ = some (.int .i64 s.x) := hc 1 (by omega)
      have q2 : wr.cell? ⟨b, off + k * 3 + 2, none⟩ = some (.int .i64 s.y) := hc 2 (by omega)
      have hst : Hid ((l.take (k + 1)).flatMap Sgt.enc = (l.take k).flatMap Sgt.enc ++ [.int .i64 s.t, .int .i64 s.x, .int .i64 s.y]) := by
        show _ = _
        obtain ⟨hk', rfl⟩ := List.getElem?_eq_some_iff.1 hx
        rw [List.take_succ_eq_append_getElem hk', List.flatMap_append]; simp [Sgt.enc]
      have hsz := hB.size
      have hown1 := own_below hown ((Below.refl wr.heap.size wr).alloc (Nat.le_refl _) (Obj.cells #[.int .i64 s.t, .int .i64 s.x, .int .i64 s.y] 104))
      have hB1 := hB.alloc hsz (Obj.cells #[.int .i64 s.t, .int .i64 s.x, .int .i64 s.y] 104)
      clear hc hx hown
      go_wp2_with (at_builtin; refine wpList_append_own _ rfl _ _ 37 rfl w.heap.size 166 i0 (.agg #[.int .i64 0, .int .i64 0, .int .i64 0]) 3 24 Tryz.underlying37 hi hz0 hz1 hz2 rfl (by decide) _ _ _ rfl (hown1.alloc _) ⟨wr.heap.size + 1, 0, none⟩ 1 1 [.int .i64 s.t, .int .i64 s.x, .int .i64 s.y] rfl rfl (news_one _ _ (by simp)) (by intro x hx; simp at hx; first | (subst hx; rfl) | (rcases hx with rfl | rfl <;> rfl) | (rcases hx with rfl | rfl | rfl <;> rfl)) (by unfold maxLen; omega) (by omega) (by simp; omega) ?_)
      intro x' w3 hown3 hg3 _
      have hB3 : Below w.heap.size w w3 := (hB1.alloc hB1.size _).grown hg3 (by simp; omega) (fun g hg => (hown1.lt g hg).1)
      rw [← hst.out] at hown3
      have HO := Lib.hid hown3
      clear hown3 hg3 hown1
      go_wp2
      go_roundw
      case rel => exact ⟨k + 1, by omega, by go_num, HO.out, hB3⟩
      case measure => simp [intOf]; omega
    · obtain rfl : k = n := by omega
      have hown' : wr.ownsRow w.heap.size 166 3 u3 k (l.flatMap Sgt.enc) := by
        have h := hown
        rw [List.take_of_length_le (by rw [← Hn.out]; exact Nat.le_refl _)] at h
        exact h
      clear hown
      have HO := Lib.hid hown'
      clear hown'
      go_wp2
      go_ret
      exact ⟨_, rfl, Sl.of_own HO.out, hB⟩

theorem info188 : (Tryz.prog.info? 188).map (fun i => (i.zero, i.size, i.bytes)) = some (some (.agg #[.int .i64 0, .int .i64 0, .string ByteArray.empty]), 3, 32) := by kernel_rfl
theorem c44 (A : Option Addr) (cap : Nat) (l : List Ent) (w : World) (hl : l.length ≤ 1000000) (H : RdL w 3 Ent.enc A l) :
    Calls Tryz.prog 44 #[.slice A l.length cap] w fun en w' => ∃ x, en = .returned x ∧ Sl w' 3 x l.length (l.flatMap Ent.enc) ∧ Below w.heap.size w w' := by
  obtain ⟨i0, hi, hz0, hz1, hz2⟩ := info_parts info188
  obtain ⟨n, hn⟩ : ∃ n, n = l.length := ⟨_, rfl⟩
  rw [← hn] at hl ⊢
  have Hn := Lib.hid hn
  clear hn
  go_enter Tryz.func44, Tryz.ntmps44
  go_wp2
  go_loopw [3, 8] (fun x i wr => ∃ k : Nat, k ≤ n ∧ i = .int .i64 k ∧ wr.ownsRow w.heap.size 188 3 x k ((l.take k).flatMap Ent.enc) ∧ Below w.heap.size w wr) (fun _ i _ => n - (intOf i).toNat)
  case atStart => exact ⟨0, Nat.zero_le _, rfl, World.ownsRow_nil _ _ _ _, Below.refl _ _⟩
  case round =>
    obtain ⟨k, hk, rfl, hown, hB⟩ := hrel
    by_cases hlt : k < n
    · obtain ⟨b, off, s, rfl, hx, hb, hc⟩ := (H.below hB).at Ent.len (by rw [← Hn.out]; exact hlt)
      have q0 : wr.cell? ⟨b, off + k * 3, none⟩ = some (.int .i64 s.f) := hc 0 (by omega)
      have q1 : wr.cell? ⟨b, off + k * 3 + 1, none⟩ = some (.int .i64 s.t) := hc 1 (by omega)
      have q2 : wr.cell? ⟨b, off + k * 3 + 2, none⟩ = some (.string s.c) := hc 2 (by omega)
      have hst : Hid ((l.take (k + 1)).flatMap Ent.enc = (l.take k).flatMap Ent.enc ++ [.int .i64 s.f, .int .i64 s.t, .string s.c]) := by
        show _ = _
        obtain ⟨hk', rfl⟩ := List.getElem?_eq_some_iff.1 hx
        rw [List.take_succ_eq_append_getElem hk', List.flatMap_append]; simp [Ent.enc]
      have hsz := hB.size
      have hown1 := own_below hown ((Below.refl wr.heap.size wr).alloc (Nat.le_refl _) (Obj.cells #[.int .i64 s.f, .int .i64 s.t, .string s.c] 134))
      have hB1 := hB.alloc hsz (Obj.cells #[.int .i64 s.f, .int .i64 s.t, .string s.c] 134)
      clear hc hx hown
      go_wp2_with (at_builtin; refine wpList_append_own _ rfl _ _ 79 rfl w.heap.size 188 i0 (.agg #[.int .i64 0, .int .i64 0, .string ByteArray.empty]) 3 32 Tryz.underlying79 hi hz0 hz1 hz2 rfl (by decide) _ _ _ rfl (hown1.alloc _) ⟨wr.heap.size + 1, 0, none⟩ 1 1 [.int .i64 s.f, .int .i64 s.t, .string s.c] rfl rfl (news_one _ _ (by simp)) (by intro x hx; simp at hx; first | (subst hx; rfl) | (rcases hx with rfl | rfl <;> rfl) | (rcases hx with rfl | rfl | rfl <;> rfl)) (by unfold maxLen; omega) (by omega) (by simp; omega) ?_)
      intro x' w3 hown3 hg3 _
      have hB3 : Below w.heap.size w w3 := (hB1.alloc hB1.size _).grown hg3 (by simp; omega) (fun g hg => (hown1.lt g hg).1)
      rw [← hst.out] at hown3
      have HO := Lib.hid hown3
      clear hown3 hg3 hown1
      go_wp2
      go_roundw
      case rel => exact ⟨k + 1, by omega, by go_num, HO.out, hB3⟩
      case measure => simp [intOf]; omega
    · obtain rfl : k = n := by omega
      have hown' : wr.ownsRow w.heap.size 188 3 u3 k (l.flatMap Ent.enc) := by
        have h := hown
        rw [List.take_of_length_le (by rw [← Hn.out]; exact Nat.le_refl _)] at h
        exact h
      clear hown
      have HO := Lib.hid hown'
      clear hown'
      go_wp2
      go_ret
      exact ⟨_, rfl, Sl.of_own HO.out, hB⟩

theorem info134 : (Tryz.prog.info? 134).map (fun i => (i.zero, i.size, i.bytes)) = some (some (.agg #[.int .i64 0, .int .i64 0, .string ByteArray.empty]), 3, 32) := by kernel_rfl
theorem c53 (A : Option Addr) (cap : Nat) (l : List Ent) (w : World) (hl : l.length ≤ 1000000) (H : RdL w 3 Ent.enc A l) :
    Calls Tryz.prog 53 #[.slice A l.length cap] w fun en w' => ∃ x, en = .returned x ∧ Sl w' 3 x l.length (l.flatMap Ent.enc) ∧ Below w.heap.size w w' := by
  obtain ⟨i0, hi, hz0, hz1, hz2⟩ := info_parts info134
  obtain ⟨n, hn⟩ : ∃ n, n = l.length := ⟨_, rfl⟩
  rw [← hn] at hl ⊢
  have Hn := Lib.hid hn
  clear hn
  go_enter Tryz.func53, Tryz.ntmps53
  go_wp2
  go_loopw [3, 8] (fun x i wr => ∃ k : Nat, k ≤ n ∧ i = .int .i64 k ∧ wr.ownsRow w.heap.size 134 3 x k ((l.take k).flatMap Ent.enc) ∧ Below w.heap.size w wr) (fun _ i _ => n - (intOf i).toNat)
  case atStart => exact ⟨0, Nat.zero_le _, rfl, World.ownsRow_nil _ _ _ _, Below.refl _ _⟩
  case round =>
    obtain ⟨k, hk, rfl, hown, hB⟩ := hrel
    by_cases hlt : k < n
    · obtain ⟨b, off, s, rfl, hx, hb, hc⟩ := (H.below hB).at Ent.len (by rw [← Hn.out]; exact hlt)
      have q0 : wr.cell? ⟨b, off + k * 3, none⟩ = some (.int .i64 s.f) := hc 0 (by omega)
      have q1 : wr.cell? ⟨b, off + k * 3 + 1, none⟩ = some (.int .i64 s.t) := hc 1 (by omega)
      have q2 : wr.cell? ⟨b, off + k * 3 + 2, none⟩ = some (.string s.c) := hc 2 (by omega)
      have hst : Hid ((l.take (k + 1)).flatMap Ent.enc = (l.take k).flatMap Ent.enc ++ [.int .i64 s.f, .int .i64 s.t, .string s.c]) := by
        show _ = _
        obtain ⟨hk', rfl⟩ := List.getElem?_eq_some_iff.1 hx
        rw [List.take_succ_eq_append_getElem hk', List.flatMap_append]; simp [Ent.enc]
      have hsz := hB.size
      have hown1 := own_below hown ((Below.refl wr.heap.size wr).alloc (Nat.le_refl _) (Obj.cells #[.int .i64 s.f, .int .i64 s.t, .string s.c] 188))
      have hB1 := hB.alloc hsz (Obj.cells #[.int .i64 s.f, .int .i64 s.t, .string s.c] 188)
      clear hc hx hown
      go_wp2_with (at_builtin; refine wpList_append_own _ rfl _ _ 74 rfl w.heap.size 134 i0 (.agg #[.int .i64 0, .int .i64 0, .string ByteArray.empty]) 3 32 Tryz.underlying74 hi hz0 hz1 hz2 rfl (by decide) _ _ _ rfl (hown1.alloc _) ⟨wr.heap.size + 1, 0, none⟩ 1 1 [.int .i64 s.f, .int .i64 s.t, .string s.c] rfl rfl (news_one _ _ (by simp)) (by intro x hx; simp at hx; first | (subst hx; rfl) | (rcases hx with rfl | rfl <;> rfl) | (rcases hx with rfl | rfl | rfl <;> rfl)) (by unfold maxLen; omega) (by omega) (by simp; omega) ?_)
      intro x' w3 hown3 hg3 _
      have hB3 : Below w.heap.size w w3 := (hB1.alloc hB1.size _).grown hg3 (by simp; omega) (fun g hg => (hown1.lt g hg).1)
      rw [← hst.out] at hown3
      have HO := Lib.hid hown3
      clear hown3 hg3 hown1
      go_wp2
      go_roundw
      case rel => exact ⟨k + 1, by omega, by go_num, HO.out, hB3⟩
      case measure => simp [intOf]; omega
    · obtain rfl : k = n := by omega
      have hown' : wr.ownsRow w.heap.size 134 3 u3 k (l.flatMap Ent.enc) := by
        have h := hown
        rw [List.take_of_length_le (by rw [← Hn.out]; exact Nat.le_refl _)] at h
        exact h
      clear hown
      have HO := Lib.hid hown'
      clear hown'
      go_wp2
      go_ret
      exact ⟨_, rfl, Sl.of_own HO.out, hB⟩

theorem info210 : (Tryz.prog.info? 210).map (fun i => (i.zero, i.size, i.bytes)) = some (some (.agg #[.string ByteArray.empty, .int .i64 0, .int .i64 0]), 3, 32) := by kernel_rfl
theorem c67 (A : Option Addr) (cap : Nat) (l : List Res) (w : World) (hl : l.length ≤ 1000000) (H : RdL w 3 Res.enc A l) :
    Calls Tryz.prog 67 #[.slice A l.length cap] w fun en w' => ∃ x, en = .returned x ∧ Sl w' 3 x l.length (l.flatMap Res.enc) ∧ Below w.heap.size w w' := by
  obtain ⟨i0, hi, hz0, hz1, hz2⟩ := info_parts info210
  obtain ⟨n, hn⟩ : ∃ n, n = l.length := ⟨_, rfl⟩
  rw [← hn] at hl ⊢
  have Hn := Lib.hid hn
  clear hn
  go_enter Tryz.func67, Tryz.ntmps67
  go_wp2
  go_loopw [3, 8] (fun x i wr => ∃ k : Nat, k ≤ n ∧ i = .int .i64 k ∧ wr.ownsRow w.heap.size 210 3 x k ((l.take k).flatMap Res.enc) ∧ Below w.heap.size w wr) (fun _ i _ => n - (intOf i).toNat)
  case atStart => exact ⟨0, Nat.zero_le _, rfl, World.ownsRow_nil _ _ _ _, Below.refl _ _⟩
  case round =>
    obtain ⟨k, hk, rfl, hown, hB⟩ := hrel
    by_cases hlt : k < n
    · obtain ⟨b, off, s, rfl, hx, hb, hc⟩ := (H.below hB).at Res.len (by rw [← Hn.out]; exact hlt)
      have q0 : wr.cell? ⟨b, off + k * 3, none⟩ = some (.string s.n) := hc 0 (by omega)
      have q1 : wr.cell? ⟨b, off + k * 3 + 1, none⟩ = some (.int .i64 s.f) := hc 1 (by omega)
      have q2 : wr.cell? ⟨b, off + k * 3 + 2, none⟩ = some (.int .i64 s.w) := hc 2 (by omega)
      have hst : Hid ((l.take (k + 1)).flatMap Res.enc = (l.take k).flatMap Res.enc ++ [.string s.n, .int .i64 s.f, .int .i64 s.w]) := by
        show _ = _
        obtain ⟨hk', rfl⟩ := List.getElem?_eq_some_iff.1 hx
        rw [List.take_succ_eq_append_getElem hk', List.flatMap_append]; simp [Res.enc]
      have hsz := hB.size
      have hown1 := own_below hown ((Below.refl wr.heap.size wr).alloc (Nat.le_refl _) (Obj.cells #[.string s.n, .int .i64 s.f, .int .i64 s.w] 202))
      have hB1 := hB.alloc hsz (Obj.cells #[.string s.n, .int .i64 s.f, .int .i64 s.w] 202)
      clear hc hx hown
      go_wp2_with (at_builtin; refine wpList_append_own _ rfl _ _ 131 rfl w.heap.size 210 i0 (.agg #[.string ByteArray.empty, .int .i64 0, .int .i64 0]) 3 32 Tryz.underlying131 hi hz0 hz1 hz2 rfl (by decide) _ _ _ rfl (hown1.alloc _) ⟨wr.heap.size + 1, 0, none⟩ 1 1 [.string s.n, .int .i64 s.f, .int .i64 s.w] rfl rfl (news_one _ _ (by simp)) (by intro x hx; simp at hx; first | (subst hx; rfl) | (rcases hx with rfl | rfl <;> rfl) | (rcases hx with rfl | rfl | rfl <;> rfl)) (by unfold maxLen; omega) (by omega) (by simp; omega) ?_)
      intro x' w3 hown3 hg3 _
      have hB3 : Below w.heap.size w w3 := (hB1.alloc hB1.size _).grown hg3 (by simp; omega) (fun g hg => (hown1.lt g hg).1)
      rw [← hst.out] at hown3
      have HO := Lib.hid hown3
      clear hown3 hg3 hown1
      go_wp2
      go_roundw
      case rel => exact ⟨k + 1, by omega, by go_num, HO.out, hB3⟩
      case measure => simp [intOf]; omega
    · obtain rfl : k = n := by omega
      have hown' : wr.ownsRow w.heap.size 210 3 u3 k (l.flatMap Res.enc) := by
        have h := hown
        rw [List.take_of_length_le (by rw [← Hn.out]; exact Nat.le_refl _)] at h
        exact h
      clear hown
      have HO := Lib.hid hown'
      clear hown'
      go_wp2
      go_ret
      exact ⟨_, rfl, Sl.of_own HO.out, hB⟩

end Go.Proofs.YtndhjkammoeikaaGreatDoor
