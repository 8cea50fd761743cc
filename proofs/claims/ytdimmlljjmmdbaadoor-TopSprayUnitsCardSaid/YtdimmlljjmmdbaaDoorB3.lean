/- A part of the proofs about chapter 7 (image): contracts of functions and plain laws (D3, D4, Open, D5). -/
import Derived.ProofKit
import Derived.Deep.Slices
import Derived.Carry
import Derived.OpenShut
import Derived.Test.YtdimmlljjmmdbaaDoorRows
import Derived.LaidLaws
import Derived.LaidMore
import Derived.LaidHandle
import Derived.Stop.Joined
import Derived.SevenTiedAt
import Derived.MakeChecks
import Derived.Stop.LaidErr
import Derived.Lib.LaidTab
import Derived.Lay
import Derived.Test.YtdimmlljjmmdbaaDoorA4
import Derived.Test.YtdimmlljjmmdbaaDoorA1
import Derived.Test.YtdimmlljjmmdbaaDoorA2
set_option linter.all false
namespace Go.Proofs.YtdimmlljjmmdbaaDoor
open Go.RowKit
set_option maxHeartbeats 8000000
set_option maxRecDepth 20000
/-- an append to an empty row with no room: a new block, nothing else -/
theorem wp_app_fresh {o : Oper} {a : Act} {w : World} {K : Act → World → Prop} {Q : Exit → Act → World → Prop} (s x : Operand)
    (ho : o.op = .call { callee := .builtin .append, args := #[s, x], argTypes := #[22, 22] })
    (b : Nat) (ys : List Int) (hs : a.eval s = .slice (some ⟨b, 0, none⟩) 0 0)
    (ad : Addr) (m c : Nat) (hx : a.eval x = .slice (some ad) m c) (H : RdI w (some ad) m ys) (hm0 : 0 < m) (hm : m ≤ 1000000)
    (h : ∀ g cap w', RowI w' w.heap.size g cap m ys → Below w.heap.size w w' → K (a.put o.dst (.slice (some ⟨g, 0, none⟩) m cap)) w') : o.wp Tryd.prog a w K Q := by
  obtain ⟨i0, hi, hz0, hz1, hz2⟩ := info_parts info3
  have hf : Builtin.nextslicecap (0 + m) 0 * i0.bytes ≤ 281474976710656 := growslice_fits (by omega) (by rw [hz2]; omega)
  have hr := run_append_grow (P := Tryd.prog) w 22 o.type 3 i0 (.int .i64 0) Tryd.underlying22 hi hz0 ⟨b, 0, none⟩ 0 0 [] (by simp) (by intro j v h; cases h) ad m c (encI ys) (by rw [hz1]; exact H.1) (RdS.news H (by omega)) (by omega) (by omega) hf
  rw [Nat.zero_add] at hr
  have hge := grownCap_ge w m 0 3
  have hcm := grownCap_le_maxLen w m 0 3 (by unfold maxLen; omega)
  have hl := H.len
  have := h w.heap.size (grownCap w m 0 3) (w.drew.alloc (.cells (([] : List Value).toArray ++ (encI ys).toArray ++ Builtin.zeroCells (Value.int .i64 0).cells (grownCap w m 0 3 - m)) 3))
    ⟨_, heap_alloc_new w.drew _, by simp [Builtin.zeroCells, Value.cells, encI, hl]; omega, by omega, by unfold maxLen at hcm; omega, hl, by
      rw [← hl]
      simp [encI], Nat.le_refl _⟩ (((Below.refl _ _).drew).alloc (Nat.le_refl _) _)
  unfold Oper.wp
  simp only [execOp, ho, resolve, invoke, builtin, Sem.run_bind, Sem.run_pure, Result.andThen_ok, List.map_toArray, List.map_cons, List.map_nil, hs, hx, hr]
  exact this
def ints (p : List Nat) : List Int := p.map (fun x : Nat => (x : Int))
theorem ints_len (p : List Nat) : (ints p).length = p.length := by simp [ints]
theorem ints_at {p : List Nat} {k : Nat} (hk : k < p.length) : Im.at0 (ints p) k = (p[k] : Nat) := by simp [ints, Im.at0, List.getD_eq_getElem?_getD, hk]
/-- a slice value that reads as a way -/
def WV (w : World) (v : Value) (x : List Nat) : Prop := ∃ g cap, v = .slice (some ⟨g, 0, none⟩) x.length cap ∧ RowI w 0 g cap x.length (ints x)
def WL (w : World) : List Value → List (List Nat) → Prop
  | [], [] => True
  | v :: vs, x :: xs => WV w v x ∧ WL w vs xs
  | _, _ => False
theorem WL.len {w : World} : ∀ {vs : List Value} {ws : List (List Nat)}, WL w vs ws → vs.length = ws.length
  | [], [], _ => rfl
  | _ :: _, _ :: _, h => by simp [WL.len h.2]
  | [], _ :: _, h => h.elim
  | _ :: _, [], h => h.elim
theorem WL.append {w : World} {vs2 : List Value} {ws2 : List (List Nat)} (h2 : WL w vs2 ws2) : ∀ {vs : List Value} {ws : List (List Nat)}, WL w vs ws → WL w (vs ++ vs2) (ws ++ ws2)
  | [], [], _ => h2
  | _ :: _, _ :: _, h => ⟨h.1, WL.append h2 h.2⟩
  | [], _ :: _, h => h.elim
  | _ :: _, [], h => h.elim
theorem WL.imp {w w' : World} (hk : ∀ (g : Nat) (cs : Array Value), w.heap[g]? = some (Obj.cells cs 3 (0, 0)) → w'.heap[g]? = some (Obj.cells cs 3 (0, 0))) : ∀ {vs : List Value} {ws : List (List Nat)}, WL w vs ws → WL w' vs ws
  | [], [], _ => trivial
  | _ :: _, _ :: _, ⟨⟨g, cap, e, cs, h1, h2⟩, h⟩ => ⟨⟨g, cap, e, cs, hk _ _ h1, h2⟩, WL.imp hk h⟩
  | [], _ :: _, h => h.elim
  | _ :: _, [], h => h.elim
theorem WL.below {w w' : World} {vs : List Value} {ws : List (List Nat)} (h : WL w vs ws) (hb : Below w.heap.size w w') : WL w' vs ws := h.imp fun _ _ h1 => blkb h1 hb
theorem WL.at {w : World} : ∀ {vs : List Value} {ws : List (List Nat)}, WL w vs ws → ∀ {k : Nat} (hk : k < ws.length), ∃ v, vs[k]? = some v ∧ WV w v ws[k]
  | [], [], _, k, hk => by cases hk
  | v :: _, _ :: _, h, 0, _ => ⟨v, rfl, h.1⟩
  | _ :: _, _ :: _, h, k + 1, hk => by
    obtain ⟨u, h1, h2⟩ := WL.at h.2 (k := k) (by simpa using hk)
    exact ⟨u, by simpa using h1, by simpa using h2⟩
  | [], _ :: _, h, _, _ => h.elim
  | _ :: _, [], h, _, _ => h.elim
theorem WL.cells {w : World} : ∀ {vs : List Value} {ws : List (List Nat)}, WL w vs ws → ∀ u ∈ vs, u.oneCell' = true
  | [], [], _, _, hu => by cases hu
  | _ :: _, _ :: _, h, u, hu => by
    rcases List.mem_cons.1 hu with rfl | hu
    · obtain ⟨_, _, rfl, _⟩ := h.1; rfl
    · exact WL.cells h.2 u hu
  | [], _ :: _, h, _, _ => h.elim
  | _ :: _, [], h, _, _ => h.elim
/-- a growth of an own row of slices leaves the ways -/
theorem WL.kept {w w' : World} {vs : List Value} {ws : List (List Nat)} {base n : Nat} {v : Value} {xs : List Value} (h : WL w vs ws) (ho : w.ownsRow base 22 1 v n xs) (hg : w.grownBy w' v.ownBlock) : WL w' vs ws :=
  h.imp fun g cs h1 => by
    refine (hg.block g (Array.getElem?_eq_some_iff.1 h1).1 ?_).trans h1
    rcases ho.2 with ⟨rfl, _⟩ | ⟨g', cap, cur, rfl, _, h2, _⟩
    · simp [Value.ownBlock]
    · simp only [Value.ownBlock]
      intro e
      cases e
      rw [h1] at h2
      simp at h2
theorem ways_len {c : Nat} {l : List Int} {d : Nat} (h8 : l.length ≤ 8) : ∀ (k : Nat) (p : List Nat) (x : Nat), (Im.ways c l d k p x).length ≤ 8 ^ k := by
  intro k
  induction k with
  | zero =>
    intro p x
    unfold Im.ways
    split <;> simp
  | succ k ih =>
    intro p x
    unfold Im.ways
    split
    · simpa using Nat.one_le_pow (k + 1) 8 (by omega)
    · have key : ∀ L : List Nat, (L.flatMap fun i => if 0 < Im.cost c l x i ∧ i ∉ p ++ [x] then Im.ways c l d k (p ++ [x]) i else []).length ≤ L.length * 8 ^ k := by
        intro L
        induction L with
        | nil => simp
        | cons i L ihL =>
          rw [List.flatMap_cons, List.length_append, List.length_cons, Nat.succ_mul]
          have : (if 0 < Im.cost c l x i ∧ i ∉ p ++ [x] then Im.ways c l d k (p ++ [x]) i else []).length ≤ 8 ^ k := by
            split
            · exact ih _ _
            · simp
          omega
      refine Nat.le_trans (key _) ?_
      rw [List.length_range, Nat.pow_succ, Nat.mul_comm]
      exact Nat.mul_le_mul (Nat.le_refl _) h8
theorem own_lowerG {w : World} {B B' e size : Nat} {v : Value} {n : Nat} {l : List Value} (h : w.ownsRow B e size v n l) (hb : B' ≤ B) : w.ownsRow B' e size v n l := by
  obtain ⟨h1, h2 | ⟨g, cap, cs, rfl, h3, h4, h5⟩⟩ := h
  · exact ⟨h1, .inl h2⟩
  · exact ⟨h1, .inr ⟨g, cap, cs, rfl, Nat.le_trans hb h3, h4, h5⟩⟩
/-- what the i-th cell adds to the ways -/
def wayF (c : Nat) (l : List Int) (d k : Nat) (p : List Nat) (x i : Nat) : List (List Nat) := if 0 < Im.cost c l x i ∧ i ∉ p ++ [x] then Im.ways c l d k (p ++ [x]) i else []
theorem wayF_len {c : Nat} {l : List Int} {d : Nat} (h8 : l.length ≤ 8) (k : Nat) (p : List Nat) (x : Nat) : ∀ L : List Nat, (L.flatMap (wayF c l d k p x)).length ≤ L.length * 8 ^ k
  | [] => by simp
  | i :: L => by
    rw [List.flatMap_cons, List.length_append, List.length_cons, Nat.succ_mul]
    have h1 := wayF_len (c := c) (d := d) h8 k p x L
    have h2 : (wayF c l d k p x i).length ≤ 8 ^ k := by
      unfold wayF
      split
      · exact ways_len h8 _ _ _
      · simp
    omega
theorem mem_ints {p : List Nat} {j : Nat} : (j : Int) ∈ ints p ↔ j ∈ p := by
  unfold ints
  rw [List.mem_map]
  constructor
  · rintro ⟨a, ha, e⟩
    have : a = j := by omega
    subst this; exact ha
  · intro h
    exact ⟨j, h, rfl⟩
/-- the one cell that is put to a way -/
def OneCell (B j : Nat) (v : Value) (w : World) : Prop := ∃ b, v = .slice (some ⟨b, 0, none⟩) 1 1 ∧ B ≤ b ∧ w.heap[b]? = some (.cells #[.int .i64 (j : Int)] 3 (0, 0))
theorem d11 (c r : Nat) (A : Option Addr) (n cap : Nat) (l : List Int) (d : Nat) (g : Im.Gr c r l) (hc : c ≤ 16) (hln : l.length = n) (hn8 : n ≤ 8) : ∀ (k : Nat) (p : List Nat) (x gw capw : Nat) (w : World), n = k + p.length → x < n → (p ++ [x]).Nodup → (∀ y, y ∈ p → y < n) →
    RdI w A n l → RowI w 0 gw capw (p.length + 1) (ints (p ++ [x])) →
    Calls Tryd.prog 11 #[.agg #[.int .i64 c, .int .i64 r, .slice A n cap], .slice (some ⟨gw, 0, none⟩) (p.length + 1) capw, .int .i64 d] w fun en w' => ∃ v vs, en = .returned v ∧ w'.ownsRow w.heap.size 22 1 v vs.length vs ∧ WL w' vs (Im.ways c l d k p x) ∧ Below w.heap.size w w' := by
  intro k
  induction k with
  | zero =>
    intro p x gw capw w hk hx hn hp
    have := Im.nodup_len hn (n := n) (fun z hz => by
      rcases List.mem_append.1 hz with h | h
      · exact hp z h
      · simp at h; subst h; exact hx)
    simp at this
    omega
  | succ k ih =>
    intro p x gw capw w hk hx hnd hp H HW
    have IH := Lib.hid ih
    clear ih
    obtain ⟨m, hm⟩ : ∃ m, m = p.length := ⟨_, rfl⟩
    have hm8 : m + k + 1 = n := by omega
    rw [← hm] at HW ⊢
    have HM := Lib.hid hm
    have HK := Lib.hid hk
    clear hm hk
    have HND := Lib.hid hnd
    have HP := Lib.hid hp
    clear hnd hp
    have hmp : (p ++ [x]).length = m + 1 := by simp [HM.out]
    have hlast := (HW.cell (k := m) (by omega)).1
    rw [ints_at (by rw [hmp]; omega)] at hlast
    have hxl : (p ++ [x])[m]'(by rw [hmp]; omega) = x := by simp [HM.out]
    rw [hxl] at hlast
    clear hxl
    have HMP := Lib.hid hmp
    clear hmp
    obtain ⟨w0, hW⟩ : ∃ W, W = w.alloc (Obj.cells #[.int .i64 c, .int .i64 r, .slice A n cap] 24) := ⟨_, rfl⟩
    have hT0 : w0.heap[w.heap.size]? = some (.cells #[.int .i64 c, .int .i64 r, .slice A n cap] 24 (0, 0)) := by rw [hW]; exact heap_new rfl
    have hB0 : Below w.heap.size w w0 := by rw [hW]; exact (Below.refl _ _).alloc (Nat.le_refl _) _
    have hs0 : w0.heap.size = w.heap.size + 1 := by rw [hW]; simp
    have hl0 : w0.cell? ⟨gw, m, none⟩ = some (.int .i64 (x : Nat)) := by
      rw [hB0.cell (p := ⟨gw, m, none⟩) (HW.cell (k := m) (by omega)).2.2]; exact hlast
    have HS0 := Lib.hid hs0
    have HWW := Lib.hid HW
    have HH := Lib.hid H
    have hgw := (HW.cell (k := m) (by omega)).2.2
    clear hl0 HW H hs0
    have hwm : IntKind.i64.wrap (m : Int) = (m : Int) := wrapI (by omega)
    have q2 : w0.cell? ⟨w.heap.size, 2, none⟩ = some (.slice A n cap) := cell_at hT0 rfl
    go_enter Tryd.func11, Tryd.ntmps11
    by_cases hxd : x = d
    · subst hxd
      go_wp2_with fail
      go_ret
      refine ⟨_, [.slice (some ⟨gw, 0, none⟩) (m + 1) capw], rfl, ?_, ?_, ?_⟩
      · have hlit := World.ownsRow_lit (base := w.heap.size) (e := 22) (size := 1) (w.alloc (Obj.cells #[.int .i64 c, .int .i64 r, .slice A n cap] 24)) #[.slice (some ⟨gw, 0, none⟩) (m + 1) capw] 1 (by simp) (by unfold maxLen; omega) rfl
        simpa using hlit
      · unfold Im.ways
        rw [if_pos rfl]
        refine ⟨⟨gw, capw, by rw [HMP.out], ?_⟩, trivial⟩
        rw [HMP.out]
        exact (HWW.out.below ((Below.refl _ _).alloc (Nat.le_refl _) _)).below ((Below.refl _ _).alloc (Nat.le_refl _) _)
      · exact ((Below.refl w.heap.size w).alloc (Nat.le_refl _) _).alloc (by simp) _
    have hxf : ((x : Int) == (d : Int)) = false := by simp; omega
    go_wp2_with fail
    rw [← hW]
    clear hW hlast hgw
    have hst : Hid (w0.ownsRow w0.heap.size 22 1 (.slice none 0 0) ([] : List Value).length [] ∧ WL w0 [] ((List.range 0).flatMap (wayF c l d k p x))) := Lib.hid ⟨World.ownsRow_nil _ _ _ _, trivial⟩
    go_loopw [8, 24] (fun o i wr => ∃ (j : Nat) (vs : List Value), j ≤ n ∧ i = .int .i64 j ∧ Hid (wr.ownsRow w0.heap.size 22 1 o vs.length vs ∧ WL wr vs ((List.range j).flatMap (wayF c l d k p x))) ∧ Below w0.heap.size w0 wr) (fun _ i _ => n - (intOf i).toNat)
    case atStart => exact ⟨0, [], Nat.zero_le _, rfl, hst, Below.refl _ _⟩
    case round =>
      clear hst q2
      obtain ⟨j, vs, hj, rfl, HO, hbr⟩ := hrel
      by_cases hlt : j < n
      rotate_left
      · obtain rfl : n = j := by omega
        have HF : Hid (Im.ways c l d (k + 1) p x = (List.range n).flatMap (wayF c l d k p x)) := Lib.hid (by
          conv => lhs; unfold Im.ways
          rw [if_neg hxd, hln]
          rfl)
        have HBF := Lib.hid (hB0.call hbr rfl)
        go_wp2
        go_ret
        exact ⟨_, vs, rfl, own_lowerG HO.out.1 (by have := HS0.out; omega), by rw [HF.out]; exact HO.out.2, HBF.out⟩
      have hT := blkb hT0 hbr
      have H := HH.out.below (hB0.call hbr rfl)
      have HW := HWW.out.below (hB0.call hbr rfl)
      have q0 := cell_at (i := 0) hT rfl
      have q1 := cell_at (i := 1) hT rfl
      have q2 := cell_at (i := 2) hT rfl
      have hwj : IntKind.i64.wrap ((j : Int) + 1) = ((j + 1 : Nat) : Int) := by rw [wrapI (by omega)]; simp
      go_wp2_with fail
      refine (c61 c r A n cap l x j _ g (by omega) hc hx hlt H).mono ?_
      rintro e w2 ⟨rfl, hb2⟩
      have hrng : (List.range (j + 1)).flatMap (wayF c l d k p x) = (List.range j).flatMap (wayF c l d k p x) ++ wayF c l d k p x j := by rw [List.range_succ]; simp
      have HR := Lib.hid hrng
      have hT2 := blkb hT hb2
      have HW2 := HW.below hb2
      have H2 := H.below hb2
      have hb02 := hbr.call hb2 rfl
      have HO2 := Lib.hid (And.intro (own_below HO.out.1 hb2) (HO.out.2.below hb2))
      clear hrng hT HW H q0 q1 q2 hb2 hbr
      obtain ⟨C, hC0⟩ : ∃ C, C = Im.cost c l x j := ⟨_, rfl⟩
      rw [← hC0]
      have HC := Lib.hid hC0
      clear hC0
      by_cases hC : 0 < C
      rotate_left
      · have HE : Hid (wayF c l d k p x j = []) := Lib.hid (by unfold wayF; rw [if_neg (by rw [← HC.out]; omega)])
        have HN : Hid (w2.ownsRow w0.heap.size 22 1 u8 vs.length vs ∧ WL w2 vs ((List.range (j + 1)).flatMap (wayF c l d k p x))) := by rw [HR.out, HE.out, List.append_nil]; exact HO2
        have HB2 := Lib.hid hb02
        clear hb02
        go_wp2
        go_roundw
        case rel => exact ⟨j + 1, vs, by omega, rfl, HN, HB2.out⟩
        case measure => simp [intOf]; omega
      go_wp2_with fail
      refine (d32 (some ⟨gw, 0, none⟩) (m + 1) capw (ints (p ++ [x])) j w2 (by omega) HW2.rd).mono ?_
      rintro e w' ⟨rfl, rfl⟩
      by_cases hmem : j ∈ p ++ [x]
      · have hd : decide ((j : Int) ∈ ints (p ++ [x])) = true := by rw [decide_eq_true_eq]; exact mem_ints.2 hmem
        have HE : Hid (wayF c l d k p x j = []) := Lib.hid (by unfold wayF; rw [if_neg (fun h => h.2 hmem)])
        have HN : Hid (w2.ownsRow w0.heap.size 22 1 u8 vs.length vs ∧ WL w2 vs ((List.range (j + 1)).flatMap (wayF c l d k p x))) := by rw [HR.out, HE.out, List.append_nil]; exact HO2
        have HB2 := Lib.hid hb02
        rw [hd]
        clear hb02 hmem hd
        go_wp2
        go_roundw
        case rel => exact ⟨j + 1, vs, by omega, rfl, HN, HB2.out⟩
        case measure => simp [intOf]; omega
      have hd : decide ((j : Int) ∈ ints (p ++ [x])) = false := by rw [decide_eq_false_iff_not]; exact fun h => hmem (mem_ints.1 h)
      have HE : Hid (wayF c l d k p x j = Im.ways c l d k (p ++ [x]) j) := Lib.hid (by unfold wayF; rw [if_pos ⟨by rw [← HC.out]; exact hC, hmem⟩])
      have HMEM := Lib.hid hmem
      rw [hd]
      clear hd hmem
      go_wp2_with fail
      refine wp_region_planJ (Φ := OneCell w2.heap.size j) (J := fun a => a.tmps[43]? = some (.int .i64 (j : Int))) [(0, 1), (1, 1), (3, 1), (5, 1), (8, 1), (2, 0), (4, 0), (6, 2), (7, 3), (9, 3), (10, 3), (11, 1)] 6 w0.heap.size _ rfl (by kernel_rfl) (by kernel_rfl) hb02.size (fun _ _ d _ _ h => by cases d <;> exact h) (fun _ _ d _ _ h => by cases d <;> exact h) (fun v w w' hv hb => ?hphi) ?hF ?_
      case hphi =>
        obtain ⟨b, e1, e2, e3⟩ := hv
        exact ⟨b, e1, e2, blkb e3 hb⟩
      case hF =>
        intro a wq hJ hq
        refine ⟨rfl, ?_⟩
        go_simp
        exact ⟨_, rfl, ⟨_, rfl, Nat.le_trans (Nat.le_refl _) (Nat.le_of_lt_succ (Nat.lt_succ_of_le hq.size)), heap_new rfl⟩, (Below.refl _ _).alloc (Nat.le_refl _) _⟩
      have zT : w.heap.size < w0.heap.size := by have := HS0.out; omega
      have q0 := cell_at (i := 0) hT2 rfl
      have q1 := cell_at (i := 1) hT2 rfl
      have q2 := cell_at (i := 2) hT2 rfl
      repeat (first | (refine wpPlanJA_skip _ rfl (by rfl) ?_; simp only [Act.put, List.setIfInBounds_toArray, List.set_cons_zero, List.set_cons_succ]) | (refine wpPlanJA_soft _ ?_ rfl (by rfl) ?_ ?_; rotate_left; (intro wq hq hcq; go_simp; first | exact rfl | exact ⟨rfl, rfl⟩); simp only [Act.put, List.setIfInBounds_toArray, List.set_cons_zero, List.set_cons_succ]))
      clear q0 q1 q2 zT
      refine wpPlanJA_hard _ rfl rfl (by rfl) (fun w3 hS K hK => ?_)
      have hA4 := hS.alloc hS.size (Obj.cells #[] 3)
      have hb4 : Below w3.heap.size w3 (w3.alloc (Obj.cells #[] 3)) := (Below.refl _ _).alloc (Nat.le_refl _) _
      go_simp
      refine hK _ _ ((Below.refl w0.heap.size w2).trans (hA4.mono hb02.size)) hb4 ?_
      clear hK K hb4 hS
      generalize w3.alloc (Obj.cells #[] 3) = w4 at hA4 ⊢
      generalize w3.heap.size = bk
      try simp only [Act.put, List.setIfInBounds_toArray, List.set_cons_zero, List.set_cons_succ]
      refine wpPlanJA_hard _ rfl rfl (by rfl) (fun w5 hS K hK => ?_)
      have hA5 := hA4.trans (hS.mono hA4.size)
      refine wp_app_fresh _ _ rfl bk (ints (p ++ [x])) rfl ⟨gw, 0, none⟩ (m + 1) capw rfl (HW2.below hA5).rd (by omega) (by omega) ?_
      intro g6 cap6 w6 hr6 hb6
      have hA6 := hA5.trans (hb6.mono hA5.size)
      refine hK _ _ ((Below.refl w0.heap.size w2).trans (hA6.mono hb02.size)) hb6 ?_
      have hr6' := hr6.lower hA5.size
      clear hK K hS hA4 hA5 hr6 hb6
      try simp only [Act.put, List.setIfInBounds_toArray, List.set_cons_zero, List.set_cons_succ]
      refine wpPlanJA_float _ rfl rfl (fun v w7 hS hv => ?_)
      obtain ⟨b7, rfl, hb7, h7⟩ := hv
      have hr7 := hr6'.below hS
      have hA7 := hA6.trans (hS.mono hA6.size)
      clear hS hr6' hA6
      try simp only [Act.put, List.setIfInBounds_toArray, List.set_cons_zero, List.set_cons_succ]
      refine wpPlanJA_late _ rfl rfl (by rfl) (fun w8 hS K hK => ?_)
      have hr8 := hr7.below hS
      have h8 := blkb h7 hS
      have hA8 := hA7.trans (hS.mono hA7.size)
      refine wp_app_ints _ _ rfl w2.heap.size _ (m + 1) (ints (p ++ [x])) [(j : Int)] rfl hr8.own (some ⟨b7, 0, none⟩) 1 1 rfl (RdS.of_block (cs := encI [(j : Int)]) h8 rfl) (by omega) hA8.size ?_
      intro v9 w9 hown9 hb9
      obtain ⟨g9, cap9, rfl, hr9⟩ := RowI.of_own (by omega) hown9
      have hA9 := hA8.trans hb9
      refine hK _ _ ((Below.refl w0.heap.size w2).trans (hA9.mono hb02.size)) ?_
      clear hK K hS hr7 h7 hA7 hr8 h8 hA8 hown9 hb9
      try simp only [Act.put, List.setIfInBounds_toArray, List.set_cons_zero, List.set_cons_succ]
      refine wpPlanJA_late _ rfl rfl (by rfl) (fun w10 hS K hK => ?_)
      have hr10 := (hr9.below hS).lower (Nat.zero_le _)
      have hA10 := hA9.trans (hS.mono hA9.size)
      have hIH := IH.out (p ++ [x]) j g9 cap9 w10 (by rw [HMP.out]; omega) hlt (Im.nodup_push HND.out HMEM.out) (fun y hy => by
        rcases List.mem_append.1 hy with h | h
        · exact HP.out y h
        · simp at h; subst h; exact hx) (H2.below hA10) (by
        rw [HMP.out]
        have e : ints (p ++ [x] ++ [j]) = ints (p ++ [x]) ++ [(j : Int)] := by simp [ints]
        rw [e]; exact hr10)
      rw [HMP.out] at hIH
      go_simp
      refine hIH.mono ?_
      rintro e w11 ⟨v11, vs2, rfl, hown11, hwl11, hb11⟩
      have hA11 := hA10.trans (hb11.mono hA10.size)
      refine hK _ _ ((Below.refl w0.heap.size w2).trans (hA11.mono hb02.size)) ?_
      clear hK K hS hr9 hA9 hr10 hA10 hIH hb11
      try simp only [Act.put, List.setIfInBounds_toArray, List.set_cons_zero, List.set_cons_succ]
      refine wpPlanJA_late _ rfl rfl (by rfl) (fun w12 hS K hK => ?_)
      have hown12 := own_below hown11 hS
      have hwl12 := hwl11.below hS
      have hA12 := hA11.trans (hS.mono hA11.size)
      have hoA := own_below HO2.out.1 hA12
      have hwA := HO2.out.2.below hA12
      obtain ⟨A11, cap11, hsl, hrd⟩ := Sl.of_own hown12
      subst hsl
      have hlen1 : vs.length ≤ j * 8 ^ k := by
        have h1 := HO2.out.2.len
        have h2 := wayF_len (c := c) (d := d) (by omega : l.length ≤ 8) k p x (List.range j)
        rw [List.length_range] at h2
        omega
      have hlen2 : vs2.length ≤ 8 ^ k := by rw [hwl12.len]; exact ways_len (by omega) _ _ _
      have hbnd : vs.length + vs2.length ≤ 1000000000 := by
        have h1 : 8 ^ k ≤ 8 ^ 7 := Nat.pow_le_pow_right (by omega) (by omega)
        have h2 : j * 8 ^ k ≤ 8 * 8 ^ 7 := Nat.mul_le_mul (by omega) h1
        omega
      have hsz : w0.heap.size ≤ w12.heap.size := Nat.le_trans hb02.size hA12.size
      refine wp_app1 _ _ 36 rfl w0.heap.size 22 (.slice none 0 0) 24 Tryd.underlying36 info22 rfl (by decide) u8 vs.length vs vs2 rfl hoA A11 vs2.length cap11 rfl hrd (WL.cells hwl12) hbnd hsz ?_
      intro v13 w13 hown13 hg13
      have hC13 := ((Below.refl w0.heap.size w2).trans (hA12.mono hb02.size)).grown hg13 hsz (own_base hoA)
      refine hK _ _ hC13 ?_
      have hw13 := WL.append (hwl12.kept hoA hg13) (hwA.kept hoA hg13)
      have hb13 := hb02.trans hC13
      clear hK K hS hown12 hwl12 hA12 hoA hwA hrd hlen1 hlen2 hbnd hsz hg13 hC13 hA11 hown11 hwl11
      try simp only [Act.put, List.setIfInBounds_toArray, List.set_cons_zero, List.set_cons_succ]
      repeat (first | (refine wpPlanJA_skip _ rfl (by rfl) ?_; simp only [Act.put, List.setIfInBounds_toArray, List.set_cons_zero, List.set_cons_succ]) | (refine wpPlanJA_soft _ ?_ rfl (by rfl) ?_ ?_; rotate_left; (intro wq hq hcq; go_simp; first | exact rfl | exact ⟨rfl, rfl⟩); simp only [Act.put, List.setIfInBounds_toArray, List.set_cons_zero, List.set_cons_succ]))
      refine wpPlanJA_nil (fun w14 hS => ?_)
      have HN : Hid (w14.ownsRow w0.heap.size 22 1 v13 (vs ++ vs2).length (vs ++ vs2) ∧ WL w14 (vs ++ vs2) ((List.range (j + 1)).flatMap (wayF c l d k p x))) := by
        rw [HR.out, HE.out, List.length_append]
        exact Lib.hid ⟨own_below hown13 hS, hw13.below hS⟩
      have HB2 := Lib.hid (hb13.call hS rfl)
      clear hS hb13 hw13 hown13 hb02
      go_wp2
      go_roundw
      case rel => exact ⟨j + 1, vs ++ vs2, by omega, rfl, HN, HB2.out⟩
      case measure => simp [intOf]; omega

end Go.Proofs.YtdimmlljjmmdbaaDoor
namespace Go.Proofs.YtdimmlljjmmdbaaDoor
open Go.RowKit
set_option maxHeartbeats 8000000
set_option maxRecDepth 20000
theorem pot_le {c : Nat} {l t left u : List Int} {a b : Nat} (hT : Im.IsT c l a t) (hL : Im.IsT c l b left) (ha : a < l.length) (hb : b < l.length) : potE c l u = 0 → potV c l u a b ≤ Im.at0 left a := by
  intro h
  have h0 := h
  unfold potE at h0
  have h1 := Mo.first_zero h0 _ (List.mem_cons_of_mem _ (List.mem_singleton.2 rfl))
  have h2 := (Mo.when_zero (by decide)).1 h1
  have hf : Im.Feas c l u := by simpa using h2
  have h3 := hT.pot hf b hb
  have h4 := hT.sym hL ha hb
  unfold potV
  rw [if_pos h]
  omega
theorem eqnn (w : World) : (Op.equalIn 10000 22 (.slice none 0 0) (.slice none 0 0)).run Tryd.prog w = .ok true w := by
  rfl
theorem nilnil22 (w : World) : (binOp .eql 22 (.slice none 0 0) (.slice none 0 0)).run Tryd.prog w = .ok (.bool true) w := by
  simp only [binOp]
  simp [Op.equal, Op.maxDepth, eqnn]
theorem RdS.cellA {w : World} {A : Option Addr} {n : Nat} {xs : List Value} (h : RdS w 1 A n xs) (hn : 0 < n) : ∃ b off, A = some ⟨b, off, none⟩ ∧ ∀ W, Below w.heap.size w W → b < W.heap.size ∧ ∀ k, k < n → W.cell? ⟨b, off + k, none⟩ = xs[k]? := by
  obtain ⟨h1, h2⟩ := h
  obtain ⟨b, off, rfl, hb, hc⟩ := h2 hn
  exact ⟨b, off, rfl, fun W hW => ⟨Nat.lt_of_lt_of_le hb hW.size, fun k hk => (hW.cell (p := ⟨b, off + k, none⟩) hb).trans (hc k (by omega))⟩⟩
/-- the time of a way -/
def tm (c : Nat) (l : List Int) : List Nat → Int
  | [] => 0
  | a :: q => Im.costs c l a q
theorem pth_walk {c : Nat} {l : List Int} : ∀ (q : List Nat) (a : Nat) (S : Int), Im.Walk c l a q → pth c l l.length (some (a : Int)) S (ints q) = (S + Im.costs c l a q, 0)
  | [], a, S, _ => by simp [ints, pth_nil, Im.costs]
  | b :: q, a, S, ⟨h1, h2, h3⟩ => by
    have hc : Mo.cell (l.length : Int) (b : Int) = 0 := Mo.cell_ok.2 (by omega)
    have e : ints (b :: q) = (b : Int) :: ints q := rfl
    rw [e, pth_some hc, Int.toNat_natCast, Int.toNat_natCast, if_pos h2, pth_walk q b _ h3]
    simp only [Im.costs, Int.add_assoc]
theorem pth_way {c : Nat} {l : List Int} {a : Nat} {q : List Nat} (ha : a < l.length) (h : Im.Walk c l a q) : pth c l l.length none 0 (ints (a :: q)) = (tm c l (a :: q), 0) := by
  have hc : Mo.cell (l.length : Int) (a : Int) = 0 := Mo.cell_ok.2 (by omega)
  have e : ints (a :: q) = (a : Int) :: ints q := rfl
  rw [e, pth_none hc, pth_walk q a 0 h, Int.zero_add]
  rfl
/-- the first way with the least time -/
def Bst (c : Nat) (l : List Int) (ws : List (List Nat)) (vs : List Value) (k : Nat) (best : Value) (least : Int) : Prop :=
  (k = 0 ∧ best = .slice none 0 0 ∧ least = 0) ∨ ∃ j, j < k ∧ vs[j]? = some best ∧ tm c l (ws.getD j []) = least ∧ (∀ i, i < j → least < tm c l (ws.getD i [])) ∧ ∀ i, i < k → least ≤ tm c l (ws.getD i [])
theorem Bst.step {c : Nat} {l : List Int} {ws : List (List Nat)} {vs : List Value} {k : Nat} {best : Value} {least : Int} (h : Bst c l ws vs k best least) {v : Value} {t : Int} (hv : vs[k]? = some v) (ht : tm c l (ws.getD k []) = t) (hlt : k = 0 ∨ t < least) :
    Bst c l ws vs (k + 1) v t := by
  refine .inr ⟨k, by omega, hv, ht, ?_, ?_⟩
  · intro i hi
    rcases h with ⟨h0, _, _⟩ | ⟨j, _, _, _, _, h5⟩
    · omega
    · have := h5 i hi
      omega
  · intro i hi
    rcases h with ⟨h0, _, _⟩ | ⟨j, _, _, _, _, h5⟩
    · have : i = k := by omega
      subst this; omega
    · by_cases e : i = k
      · subst e; omega
      · have := h5 i (by omega)
        omega
theorem Bst.keep {c : Nat} {l : List Int} {ws : List (List Nat)} {vs : List Value} {k : Nat} {best : Value} {least : Int} (h : Bst c l ws vs k best least) {t : Int} (ht : tm c l (ws.getD k []) = t) (hk : ¬ k = 0) (hlt : ¬ t < least) :
    Bst c l ws vs (k + 1) best least := by
  rcases h with ⟨h0, _, _⟩ | ⟨j, h1, h2, h3, h4, h5⟩
  · exact absurd h0 hk
  · refine .inr ⟨j, by omega, h2, h3, h4, fun i hi => ?_⟩
    by_cases e : i = k
    · subst e; omega
    · exact h5 i (by omega)
theorem Bst.done {c : Nat} {l : List Int} {pre post : List (List Nat)} {y : List Nat} {vs : List Value} {best : Value} {least N : Int} (h : Bst c l (pre ++ y :: post) vs (pre ++ y :: post).length best least)
    (hp : ∀ z, z ∈ pre → N < tm c l z) (hy : tm c l y = N) (hq : ∀ z, z ∈ post → N ≤ tm c l z) : least = N ∧ vs[pre.length]? = some best := by
  have hge : ∀ i, i < (pre ++ y :: post).length → N ≤ tm c l ((pre ++ y :: post).getD i []) := by
    intro i hi
    rw [List.getD_eq_getElem?_getD, List.getElem?_eq_getElem hi]
    have hm : (pre ++ y :: post)[i] ∈ pre ++ y :: post := List.getElem_mem hi
    simp only [Option.getD_some]
    rcases List.mem_append.1 hm with h | h
    · have := hp _ h; omega
    · rcases List.mem_cons.1 h with h | h
      · rw [h, hy]; exact Int.le_refl _
      · exact hq _ h
  have hyi : (pre ++ y :: post).getD pre.length [] = y := by simp [List.getD_eq_getElem?_getD]
  rcases h with ⟨h0, _, _⟩ | ⟨j, h1, h2, h3, h4, h5⟩
  · simp at h0
  · have e1 := h5 pre.length (by simp)
    rw [hyi, hy] at e1
    have e2 := hge j h1
    rw [h3] at e2
    have e3 : least = N := by omega
    subst e3
    by_cases hj : j < pre.length
    · have : (pre ++ y :: post).getD j [] = pre[j] := by
        rw [List.getD_eq_getElem?_getD, List.getElem?_append_left hj, List.getElem?_eq_getElem hj]; rfl
      have h6 := hp _ (List.getElem_mem hj)
      rw [this] at h3
      omega
    · by_cases hj2 : j = pre.length
      · subst hj2; exact ⟨rfl, h2⟩
      · have := h4 pre.length (by omega)
        rw [hyi, hy] at this
        omega

theorem d3 (c r : Int) (A : Option Addr) (n cap : Nat) (l : List Int) (e0 e1 : Nat) (U : Option Addr) (m capu : Nat) (us : List Int) (w : World) (he0 : e0 < 256) (he1 : e1 < 256) (H : RdI w A n l) (HU : RdI w U m us) (hst : Steps w) :
   Calls Tryd.prog 3 #[.agg #[.int .i64 c, .int .i64 r, .slice A n cap], .agg #[.int .u8 e0, .int .u8 e1], .slice U m capu] w fun en w' => en = .returned (.bool true) ∧ Below w.heap.size w w' := by
  have HLN := Lib.hid H.len
  have HUN := Lib.hid HU.len
  obtain ⟨w0, hW⟩ : ∃ W, W = (w.alloc (Obj.cells #[.int .i64 c, .int .i64 r, .slice A n cap] 24)).alloc (Obj.cells #[.int .u8 e0, .int .u8 e1] 25) := ⟨_, rfl⟩
  have hT0 : w0.heap[w.heap.size]? = some (.cells #[.int .i64 c, .int .i64 r, .slice A n cap] 24 (0, 0)) := by rw [hW]; exact heap_old (by simp <;> omega) (heap_new (by simp))
  have hT1 : w0.heap[w.heap.size + 1]? = some (.cells #[.int .u8 e0, .int .u8 e1] 25 (0, 0)) := by rw [hW]; exact heap_new (by simp)
  have hB0 : Below w.heap.size w w0 := by rw [hW]; exact (((Below.refl _ _).alloc (by first | omega | (simp <;> omega)) _).alloc (by first | omega | (simp <;> omega)) _)
  replace H := H.below hB0
  replace HU := HU.below hB0
  replace hst := hst.below hB0
  go_enter Tryd.func3, Tryd.ntmps3
  go_wp2_with fail
  rw [← hW]
  clear hW
  have qhT0_0 : w0.cell? ⟨w.heap.size, 0, none⟩ = some (.int .i64 c) := cell_at hT0 rfl
  have qhT0_1 : w0.cell? ⟨w.heap.size, 1, none⟩ = some (.int .i64 r) := cell_at hT0 rfl
  have qhT0_2 : w0.cell? ⟨w.heap.size, 2, none⟩ = some (.slice A n cap) := cell_at hT0 rfl
  have qhT1_0 : w0.cell? ⟨w.heap.size + 1, 0, none⟩ = some (.int .u8 e0) := cell_at hT1 rfl
  have qhT1_1 : w0.cell? ⟨w.heap.size + 1, 1, none⟩ = some (.int .u8 e1) := cell_at hT1 rfl
  go_wp2_with fail
  refine (d5 c r A n cap _).mono ?_
  rintro e w1 ⟨⟨sb, rfl, hsb⟩, hb⟩
  clear qhT0_0 qhT0_1 qhT0_2 qhT1_0 qhT1_1
  have hS := hb
  have hB1 := hB0.call hS rfl
  replace hT0 := blkb hT0 hS
  replace hT1 := blkb hT1 hS
  replace H := H.below hS
  replace HU := HU.below hS
  replace hst := hst.below hS
  clear hS hB0
  have qhT0_0 : w1.cell? ⟨w.heap.size, 0, none⟩ = some (.int .i64 c) := cell_at hT0 rfl
  have qhT0_1 : w1.cell? ⟨w.heap.size, 1, none⟩ = some (.int .i64 r) := cell_at hT0 rfl
  have qhT0_2 : w1.cell? ⟨w.heap.size, 2, none⟩ = some (.slice A n cap) := cell_at hT0 rfl
  have qhT1_0 : w1.cell? ⟨w.heap.size + 1, 0, none⟩ = some (.int .u8 e0) := cell_at hT1 rfl
  have qhT1_1 : w1.cell? ⟨w.heap.size + 1, 1, none⟩ = some (.int .u8 e1) := cell_at hT1 rfl
  clear hb
  have HSB := Lib.hid hsb
  clear hsb
  cases sb
  ·
      go_wp2_with fail
      refine (d7 _ hst).mono ?_
      rintro e w2 ⟨rfl, hb⟩
      have HB := Lib.hid (hB1.call hb rfl)
      clear hb
      go_wp2
      go_ret
      exact ⟨rfl, HB.out⟩
  have hn30 : n ≤ 30 := HSB.out rfl
  go_wp2_with fail
  refine (c65 c r A n cap l _ (by omega) H).mono ?_
  rintro e w2 ⟨rfl, hb⟩
  clear qhT0_0 qhT0_1 qhT0_2 qhT1_0 qhT1_1
  have hS := hb
  have hB2 := hB1.call hS rfl
  replace hT0 := blkb hT0 hS
  replace hT1 := blkb hT1 hS
  replace H := H.below hS
  replace HU := HU.below hS
  replace hst := hst.below hS
  clear hS hB1
  have qhT0_0 : w2.cell? ⟨w.heap.size, 0, none⟩ = some (.int .i64 c) := cell_at hT0 rfl
  have qhT0_1 : w2.cell? ⟨w.heap.size, 1, none⟩ = some (.int .i64 r) := cell_at hT0 rfl
  have qhT0_2 : w2.cell? ⟨w.heap.size, 2, none⟩ = some (.slice A n cap) := cell_at hT0 rfl
  have qhT1_0 : w2.cell? ⟨w.heap.size + 1, 0, none⟩ = some (.int .u8 e0) := cell_at hT1 rfl
  have qhT1_1 : w2.cell? ⟨w.heap.size + 1, 1, none⟩ = some (.int .u8 e1) := cell_at hT1 rfl
  clear hb
  obtain ⟨E, hE⟩ : ∃ E, E = Mo.ground c r l := ⟨_, rfl⟩
  rw [← hE]
  have HE := Lib.hid hE
  clear hE
  by_cases hE0 : E = 0
  rotate_left
  ·
      have hef : (E != 0) = true := by simpa using hE0
      go_wp2_with fail
      refine (d7 _ hst).mono ?_
      rintro e w3 ⟨rfl, hb⟩
      have HB := Lib.hid (hB2.call hb rfl)
      clear hb
      go_wp2
      go_ret
      exact ⟨rfl, HB.out⟩
  have hef : (E != 0) = false := by simp [hE0]
  by_cases hn8 : 8 < n
  ·
      have hd8 : decide ((8 : Int) < (n : Int)) = true := by simp; omega
      go_wp2_with fail
      refine (d7 _ hst).mono ?_
      rintro e w3 ⟨rfl, hb⟩
      have HB := Lib.hid (hB2.call hb rfl)
      clear hb
      go_wp2
      go_ret
      exact ⟨rfl, HB.out⟩
  have hd8 : decide ((8 : Int) < (n : Int)) = false := by simp; omega
  by_cases hm30 : 30 < m
  ·
      have hd30 : decide ((30 : Int) < (m : Int)) = true := by simp; omega
      go_wp2_with fail
      refine (d7 _ hst).mono ?_
      rintro e w3 ⟨rfl, hb⟩
      have HB := Lib.hid (hB2.call hb rfl)
      clear hb
      go_wp2
      go_ret
      exact ⟨rfl, HB.out⟩
  have hd30 : decide ((30 : Int) < (m : Int)) = false := by simp; omega
  obtain ⟨c, r, rfl, rfl, hc, hr, g⟩ := Mo.ground_ok (HE.out ▸ hE0 : Mo.ground c r l = 0)
  have hn0 : 0 < n := by
    have h1 := g.c1; have h2 := g.r1; have h3 := g.len
    have : 1 * 1 ≤ c * r := Nat.mul_le_mul h1 h2
    rw [← HLN.out]; omega
  have hn00 : ¬ n = 0 := by omega
  have hm0 : (e0 : Int).tmod (n : Int) = ((e0 % n : Nat) : Int) := Int.ofNat_tmod _ _
  have hm1 : (e1 : Int).tmod (n : Int) = ((e1 % n : Nat) : Int) := Int.ofNat_tmod _ _
  have hwe0 : IntKind.i64.wrap (e0 : Int) = (e0 : Int) := wrapI (by omega)
  have hwe1 : IntKind.i64.wrap (e1 : Int) = (e1 : Int) := wrapI (by omega)
  obtain ⟨a, ha0⟩ : ∃ a, a = e0 % n := ⟨_, rfl⟩
  obtain ⟨b, hb0⟩ : ∃ b, b = e1 % n := ⟨_, rfl⟩
  rw [← ha0] at hm0
  rw [← hb0] at hm1
  have ha : a < n := by rw [ha0]; exact Nat.mod_lt _ hn0
  have hb' : b < n := by rw [hb0]; exact Nat.mod_lt _ hn0
  clear ha0 hb0 hd8 hd30 hef
  go_wp2_with fail
  refine wp_region_plan [(0, true), (1, true), (2, true), (3, true), (4, true), (5, true), (6, true), (7, true), (8, true), (9, true), (10, true), (11, true), (12, true), (13, true), (14, true), (15, true)] w2.heap.size (by kernel_rfl) (by kernel_rfl) (Nat.le_refl _) (fun _ _ d _ _ h => by cases d <;> exact h) ?_
  have hC : Below w2.heap.size w2 w2 := Below.refl _ _
  have zhT0 : w.heap.size < w2.heap.size := (Array.getElem?_eq_some_iff.1 hT0).1
  have zhT1 : w.heap.size + 1 < w2.heap.size := (Array.getElem?_eq_some_iff.1 hT1).1
  repeat (first | (refine wpPlanA_skip _ rfl (by rfl) ?_; simp only [Act.put, List.setIfInBounds_toArray, List.set_cons_zero, List.set_cons_succ]) | (refine wpPlanA_soft _ ?_ rfl (by rfl) ?_ ?_; rotate_left; (intro wq hq hcq; go_simp; first | exact rfl | exact ⟨rfl, rfl⟩); simp only [Act.put, List.setIfInBounds_toArray, List.set_cons_zero, List.set_cons_succ]))
  clear hm0 hm1 hwe0 hwe1 hn00
  clear qhT0_0 qhT0_1 qhT0_2 qhT1_0 qhT1_1
  refine wpPlanA_nil (fun w3 hS => ?_)
  clear hC zhT0 zhT1
  have hB3 := hB2.call hS rfl
  replace hT0 := blkb hT0 hS
  replace hT1 := blkb hT1 hS
  replace H := H.below hS
  replace HU := HU.below hS
  replace hst := hst.below hS
  clear hS hB2
  have qhT0_0 : w3.cell? ⟨w.heap.size, 0, none⟩ = some (.int .i64 c) := cell_at hT0 rfl
  have qhT0_1 : w3.cell? ⟨w.heap.size, 1, none⟩ = some (.int .i64 r) := cell_at hT0 rfl
  have qhT0_2 : w3.cell? ⟨w.heap.size, 2, none⟩ = some (.slice A n cap) := cell_at hT0 rfl
  have qhT1_0 : w3.cell? ⟨w.heap.size + 1, 0, none⟩ = some (.int .u8 e0) := cell_at hT1 rfl
  have qhT1_1 : w3.cell? ⟨w.heap.size + 1, 1, none⟩ = some (.int .u8 e1) := cell_at hT1 rfl
  go_wp2_with fail
  refine (d9 c r A n cap l _ (by omega) H).mono ?_
  rintro e w4 ⟨vg1, rfl, hown1, hb⟩
  clear qhT0_0 qhT0_1 qhT0_2 qhT1_0 qhT1_1
  have hS := hb
  have hB4 := hB3.call hS rfl
  replace hT0 := blkb hT0 hS
  replace hT1 := blkb hT1 hS
  replace H := H.below hS
  replace HU := HU.below hS
  replace hst := hst.below hS
  clear hS hB3
  have qhT0_0 : w4.cell? ⟨w.heap.size, 0, none⟩ = some (.int .i64 c) := cell_at hT0 rfl
  have qhT0_1 : w4.cell? ⟨w.heap.size, 1, none⟩ = some (.int .i64 r) := cell_at hT0 rfl
  have qhT0_2 : w4.cell? ⟨w.heap.size, 2, none⟩ = some (.slice A n cap) := cell_at hT0 rfl
  have qhT1_0 : w4.cell? ⟨w.heap.size + 1, 0, none⟩ = some (.int .u8 e0) := cell_at hT1 rfl
  have qhT1_1 : w4.cell? ⟨w.heap.size + 1, 1, none⟩ = some (.int .u8 e1) := cell_at hT1 rfl
  clear hb
  obtain ⟨g1, cg1, rfl, hg1⟩ := RowI.of_own hn0 hown1
  clear hown1
  have HG1 := hg1.rd
  clear hg1
  go_wp2_with fail
  refine (c58_ok c r (some ⟨g1, 0, none⟩) n cg1 l a _ g hc hr HG1 hst ha).mono ?_
  rintro e w5 ⟨og1, t, rfl, hog1, ht, hT, hb⟩
  clear qhT0_0 qhT0_1 qhT0_2 qhT1_0 qhT1_1
  have hS := hb
  have hB5 := hB4.call hS rfl
  replace hT0 := blkb hT0 hS
  replace hT1 := blkb hT1 hS
  replace H := H.below hS
  replace HU := HU.below hS
  replace hst := hst.below hS
  replace HG1 := HG1.below hS
  clear hS hB4
  have qhT0_0 : w5.cell? ⟨w.heap.size, 0, none⟩ = some (.int .i64 c) := cell_at hT0 rfl
  have qhT0_1 : w5.cell? ⟨w.heap.size, 1, none⟩ = some (.int .i64 r) := cell_at hT0 rfl
  have qhT0_2 : w5.cell? ⟨w.heap.size, 2, none⟩ = some (.slice A n cap) := cell_at hT0 rfl
  have qhT1_0 : w5.cell? ⟨w.heap.size + 1, 0, none⟩ = some (.int .u8 e0) := cell_at hT1 rfl
  have qhT1_1 : w5.cell? ⟨w.heap.size + 1, 1, none⟩ = some (.int .u8 e1) := cell_at hT1 rfl
  clear hb
  clear hog1 HG1
  go_wp2_with fail
  refine (d9 c r A n cap l _ (by omega) H).mono ?_
  rintro e w6 ⟨vg2, rfl, hown2, hb⟩
  clear qhT0_0 qhT0_1 qhT0_2 qhT1_0 qhT1_1
  have hS := hb
  have hB6 := hB5.call hS rfl
  replace hT0 := blkb hT0 hS
  replace hT1 := blkb hT1 hS
  replace H := H.below hS
  replace HU := HU.below hS
  replace hst := hst.below hS
  replace ht := blkb ht hS
  clear hS hB5
  have qhT0_0 : w6.cell? ⟨w.heap.size, 0, none⟩ = some (.int .i64 c) := cell_at hT0 rfl
  have qhT0_1 : w6.cell? ⟨w.heap.size, 1, none⟩ = some (.int .i64 r) := cell_at hT0 rfl
  have qhT0_2 : w6.cell? ⟨w.heap.size, 2, none⟩ = some (.slice A n cap) := cell_at hT0 rfl
  have qhT1_0 : w6.cell? ⟨w.heap.size + 1, 0, none⟩ = some (.int .u8 e0) := cell_at hT1 rfl
  have qhT1_1 : w6.cell? ⟨w.heap.size + 1, 1, none⟩ = some (.int .u8 e1) := cell_at hT1 rfl
  clear hb
  obtain ⟨g2, cg2, rfl, hg2⟩ := RowI.of_own hn0 hown2
  clear hown2
  have HG2 := hg2.rd
  clear hg2
  go_wp2_with fail
  refine (c58_ok c r (some ⟨g2, 0, none⟩) n cg2 l b _ g hc hr HG2 hst hb').mono ?_
  rintro e w7 ⟨og2, u, rfl, hog2, hu, hU, hb⟩
  clear qhT0_0 qhT0_1 qhT0_2 qhT1_0 qhT1_1
  have hS := hb
  have hB7 := hB6.call hS rfl
  replace hT0 := blkb hT0 hS
  replace hT1 := blkb hT1 hS
  replace H := H.below hS
  replace HU := HU.below hS
  replace hst := hst.below hS
  replace ht := blkb ht hS
  replace HG2 := HG2.below hS
  clear hS hB6
  have qhT0_0 : w7.cell? ⟨w.heap.size, 0, none⟩ = some (.int .i64 c) := cell_at hT0 rfl
  have qhT0_1 : w7.cell? ⟨w.heap.size, 1, none⟩ = some (.int .i64 r) := cell_at hT0 rfl
  have qhT0_2 : w7.cell? ⟨w.heap.size, 2, none⟩ = some (.slice A n cap) := cell_at hT0 rfl
  have qhT1_0 : w7.cell? ⟨w.heap.size + 1, 0, none⟩ = some (.int .u8 e0) := cell_at hT1 rfl
  have qhT1_1 : w7.cell? ⟨w.heap.size + 1, 1, none⟩ = some (.int .u8 e1) := cell_at hT1 rfl
  clear hb
  clear hog2 HG2
  go_wp2_with fail
  refine (d9 c r A n cap l _ (by omega) H).mono ?_
  rintro e w8 ⟨vg3, rfl, hown3, hb⟩
  clear qhT0_0 qhT0_1 qhT0_2 qhT1_0 qhT1_1
  have hS := hb
  have hB8 := hB7.call hS rfl
  replace hT0 := blkb hT0 hS
  replace hT1 := blkb hT1 hS
  replace H := H.below hS
  replace HU := HU.below hS
  replace hst := hst.below hS
  replace ht := blkb ht hS
  replace hu := blkb hu hS
  clear hS hB7
  have qhT0_0 : w8.cell? ⟨w.heap.size, 0, none⟩ = some (.int .i64 c) := cell_at hT0 rfl
  have qhT0_1 : w8.cell? ⟨w.heap.size, 1, none⟩ = some (.int .i64 r) := cell_at hT0 rfl
  have qhT0_2 : w8.cell? ⟨w.heap.size, 2, none⟩ = some (.slice A n cap) := cell_at hT0 rfl
  have qhT1_0 : w8.cell? ⟨w.heap.size + 1, 0, none⟩ = some (.int .u8 e0) := cell_at hT1 rfl
  have qhT1_1 : w8.cell? ⟨w.heap.size + 1, 1, none⟩ = some (.int .u8 e1) := cell_at hT1 rfl
  clear hb
  obtain ⟨g3, cg3, rfl, hg3⟩ := RowI.of_own hn0 hown3
  clear hown3
  have HG3 := hg3.rd
  clear hg3
  go_wp2_with fail
  refine (c59_ok c r (some ⟨g3, 0, none⟩) n cg3 l a b _ g hc hr HG3 hst ha hb').mono ?_
  rintro e w9 ⟨gp, cp, left, rfl, hL, HPA, hb⟩
  clear qhT0_0 qhT0_1 qhT0_2 qhT1_0 qhT1_1
  have hS := hb
  have hB9 := hB8.call hS rfl
  replace hT0 := blkb hT0 hS
  replace hT1 := blkb hT1 hS
  replace H := H.below hS
  replace HU := HU.below hS
  replace hst := hst.below hS
  replace ht := blkb ht hS
  replace hu := blkb hu hS
  replace HG3 := HG3.below hS
  clear hS hB8
  have qhT0_0 : w9.cell? ⟨w.heap.size, 0, none⟩ = some (.int .i64 c) := cell_at hT0 rfl
  have qhT0_1 : w9.cell? ⟨w.heap.size, 1, none⟩ = some (.int .i64 r) := cell_at hT0 rfl
  have qhT0_2 : w9.cell? ⟨w.heap.size, 2, none⟩ = some (.slice A n cap) := cell_at hT0 rfl
  have qhT1_0 : w9.cell? ⟨w.heap.size + 1, 0, none⟩ = some (.int .u8 e0) := cell_at hT1 rfl
  have qhT1_1 : w9.cell? ⟨w.heap.size + 1, 1, none⟩ = some (.int .u8 e1) := cell_at hT1 rfl
  clear hb
  clear HG3
  obtain rfl := hL.unique hU
  have hsym := hT.sym hL (by rw [HLN.out]; exact ha) (by rw [HLN.out]; exact hb')
  have HT := Lib.hid hT
  have HL := Lib.hid hL
  have qt : w9.cell? ⟨og1, b, none⟩ = some (.int .i64 (Im.at0 t b)) := cell_at ht (by simp [encI, Im.at0, List.getD_eq_getElem?_getD, hT.len, HLN.out, hb'])
  have qu : w9.cell? ⟨og2, a, none⟩ = some (.int .i64 (Im.at0 left a)) := cell_at hu (by simp [encI, Im.at0, List.getD_eq_getElem?_getD, hL.len, HLN.out, ha])
  rw [← hsym] at qt
  obtain ⟨N, hN⟩ : ∃ N, N = Im.at0 left a := ⟨_, rfl⟩
  rw [← hN] at qt qu ⊢
  have HN := Lib.hid hN
  clear hN hsym hT hL
  go_wp2_with fail
  obtain ⟨w10, hwn⟩ : ∃ V, V = w9.alloc (Obj.cells #[.int .i64 (a : Int)] 3) := ⟨_, rfl⟩
  have hbn : Below w9.heap.size w9 w10 := by rw [hwn]; exact (Below.refl _ _).alloc (Nat.le_refl _) _
  have hrow : RowI w10 0 w9.heap.size 1 (([] : List Nat).length + 1) (ints ([] ++ [a])) := ⟨_, by rw [hwn]; exact heap_new rfl, rfl, Nat.le_refl _, by decide, rfl, rfl, Nat.zero_le _⟩
  rw [← hwn]
  clear hwn qt qu
  clear ht hu
  clear qhT0_0 qhT0_1 qhT0_2 qhT1_0 qhT1_1
  have hS := hbn
  have hB10 := hB9.call hS rfl
  replace hT0 := blkb hT0 hS
  replace hT1 := blkb hT1 hS
  replace H := H.below hS
  replace HU := HU.below hS
  replace hst := hst.below hS
  replace HPA := HPA.below hS
  clear hS hB9
  have qhT0_0 : w10.cell? ⟨w.heap.size, 0, none⟩ = some (.int .i64 c) := cell_at hT0 rfl
  have qhT0_1 : w10.cell? ⟨w.heap.size, 1, none⟩ = some (.int .i64 r) := cell_at hT0 rfl
  have qhT0_2 : w10.cell? ⟨w.heap.size, 2, none⟩ = some (.slice A n cap) := cell_at hT0 rfl
  have qhT1_0 : w10.cell? ⟨w.heap.size + 1, 0, none⟩ = some (.int .u8 e0) := cell_at hT1 rfl
  have qhT1_1 : w10.cell? ⟨w.heap.size + 1, 1, none⟩ = some (.int .u8 e1) := cell_at hT1 rfl
  clear hbn
  refine (d11 c r A n cap l b g hc HLN.out (by omega) n [] a w9.heap.size 1 _ rfl ha (by simp) (fun y hy => by cases hy) H hrow).mono ?_
  rintro e w11 ⟨v, vs, rfl, hown, HWL, hb⟩
  clear hrow
  clear qhT0_0 qhT0_1 qhT0_2 qhT1_0 qhT1_1
  have hS := hb
  have hB11 := hB10.call hS rfl
  replace hT0 := blkb hT0 hS
  replace hT1 := blkb hT1 hS
  replace H := H.below hS
  replace HU := HU.below hS
  replace hst := hst.below hS
  replace HPA := HPA.below hS
  clear hS hB10
  have qhT0_0 : w11.cell? ⟨w.heap.size, 0, none⟩ = some (.int .i64 c) := cell_at hT0 rfl
  have qhT0_1 : w11.cell? ⟨w.heap.size, 1, none⟩ = some (.int .i64 r) := cell_at hT0 rfl
  have qhT0_2 : w11.cell? ⟨w.heap.size, 2, none⟩ = some (.slice A n cap) := cell_at hT0 rfl
  have qhT1_0 : w11.cell? ⟨w.heap.size + 1, 0, none⟩ = some (.int .u8 e0) := cell_at hT1 rfl
  have qhT1_1 : w11.cell? ⟨w.heap.size + 1, 1, none⟩ = some (.int .u8 e1) := cell_at hT1 rfl
  clear hb
  obtain ⟨Av, capv, rfl, hrd⟩ := Sl.of_own hown
  clear hown
  have hal : a < l.length := by rw [HLN.out]; exact ha
  obtain ⟨pre, post, hws, hpre, hpost⟩ := Im.ways_best g HL.out n [] a (by rw [HLN.out]; simp) hal (by simp) (fun y hy => by cases hy) (fun y hy => by cases hy)
  have hmem := Im.ways_mem (c := c) (l := l) (d := b) n [] a hal (by simp) (fun y hy => by cases hy)
  obtain ⟨qw, hqw, hwk, hcw, _, _⟩ := Im.way_facts HL.out _ a hal (Nat.le_refl _)
  have HWY : Hid (tm c l (Im.way c l left b a) = N) := Lib.hid (by rw [hqw, HN.out]; exact hcw)
  have HPRE : Hid (∀ z, z ∈ pre → N < tm c l z) := Lib.hid (fun z hz => by
    obtain ⟨q, rfl, _, h⟩ := hpre z hz
    rw [HN.out]; exact h)
  have HPOST : Hid (∀ z, z ∈ post → N ≤ tm c l z) := Lib.hid (fun z hz => by
    obtain ⟨q, rfl, _, h⟩ := hpost z hz
    rw [HN.out]; exact h)
  rw [List.nil_append] at hws
  have HWS := Lib.hid hws
  have HMEM := Lib.hid hmem
  have HLB : Hid ((Im.ways c l b n [] a).length ≤ 8 ^ n) := Lib.hid (ways_len (by rw [HLN.out]; omega) _ _ _)
  generalize Im.ways c l b n [] a = ws at HWL HWS HMEM HLB
  have HCNT := Lib.hid HWL.len
  have hcnt : 0 < vs.length := by rw [HCNT.out, HWS.out]; simp; omega
  clear hws hpre hpost hmem hqw hwk hcw
  obtain ⟨vb, voff, rfl, HCV⟩ := RdS.cellA hrd hcnt
  have HCVH := Lib.hid HCV
  clear HCV hrd
  obtain ⟨wL, hwL⟩ : ∃ V, V = w11 := ⟨_, rfl⟩
  go_wp2_with fail
  have hst0 : Hid (Bst c l ws vs 0 (.slice none 0 0) 0) := Lib.hid (.inl ⟨rfl, rfl, rfl⟩)
  have q22 := nil22
  clear hwL
  go_loopw [16, 17, 128] (fun best lst i wr => ∃ (k : Nat) (least : Int), k ≤ vs.length ∧ i = .int .i64 k ∧ lst = .int .i64 least ∧ Hid (Bst c l ws vs k best least) ∧ Below w11.heap.size w11 wr) (fun _ _ i _ => vs.length - (intOf i).toNat)
  case atStart => exact ⟨0, 0, Nat.zero_le _, rfl, rfl, hst0, Below.refl _ _⟩
  case round =>
    clear hst0
    obtain ⟨k, least, hk, rfl, rfl, HBS, hbr⟩ := hrel
    obtain ⟨w12, hww⟩ : ∃ W, W = wr := ⟨_, rfl⟩
    subst hww
    have hB12 := hB11.call hbr rfl
    replace hT0 := blkb hT0 hbr
    replace hT1 := blkb hT1 hbr
    replace H := H.below hbr
    replace HU := HU.below hbr
    replace hst := hst.below hbr
    replace HPA := HPA.below hbr
    replace HWL := HWL.below hbr
    clear hB11
    have qhT0_0 : w12.cell? ⟨w.heap.size, 0, none⟩ = some (.int .i64 c) := cell_at hT0 rfl
    have qhT0_1 : w12.cell? ⟨w.heap.size, 1, none⟩ = some (.int .i64 r) := cell_at hT0 rfl
    have qhT0_2 : w12.cell? ⟨w.heap.size, 2, none⟩ = some (.slice A n cap) := cell_at hT0 rfl
    have qhT1_0 : w12.cell? ⟨w.heap.size + 1, 0, none⟩ = some (.int .u8 e0) := cell_at hT1 rfl
    have qhT1_1 : w12.cell? ⟨w.heap.size + 1, 1, none⟩ = some (.int .u8 e1) := cell_at hT1 rfl
    have hwk : IntKind.i64.wrap ((k : Int) + 1) = ((k + 1 : Nat) : Int) := by
      have hb1 : vs.length ≤ 8 ^ n := by rw [HCNT.out]; exact HLB.out
      have hb2 : 8 ^ n ≤ 8 ^ 8 := Nat.pow_le_pow_right (by omega) (by omega)
      rw [wrapI (by omega)]; simp
    by_cases hlt : k < vs.length
    rotate_left
    ·
        obtain rfl : vs.length = k := by omega
        have hbd := HBS.out
        rw [HCNT.out, HWS.out] at hbd
        obtain ⟨hlN, hvb⟩ := hbd.done HPRE.out HWY.out HPOST.out
        have HPOT := Lib.hid (pot_le (u := us) HT.out HL.out hal (by rw [HLN.out]; exact hb'))
        rw [← HN.out, ← hlN] at HPOT
        have HNL := Lib.hid hlN
        rw [← hlN]
        clear hlN hbd
        have hws2 := HWS.out
        subst hws2
        obtain ⟨v', hv', gB, cB, e, hrB⟩ := HWL.at (k := pre.length) (by simp)
        rw [hvb] at hv'
        have hv2 := Option.some.inj hv'
        have hwe : (pre ++ Im.way c l left b a :: post)[pre.length]'(by simp) = Im.way c l left b a := by simp
        rw [hwe] at e hrB
        rw [← hv2] at e
        subst e
        clear hv' hv2 hwe hvb
        have hwl : (Im.way c l left b a).length ≤ 1000000 := by have := Im.way_len HL.out hal; rw [HLN.out] at this; omega
        have hll : (least != least) = false := by simp
        have hlb : decide (vs.length < vs.length) = false := by simp
        have qhT0_0 : w12.cell? ⟨w.heap.size, 0, none⟩ = some (.int .i64 c) := cell_at hT0 rfl
        have qhT0_1 : w12.cell? ⟨w.heap.size, 1, none⟩ = some (.int .i64 r) := cell_at hT0 rfl
        have qhT0_2 : w12.cell? ⟨w.heap.size, 2, none⟩ = some (.slice A n cap) := cell_at hT0 rfl
        have qhT1_0 : w12.cell? ⟨w.heap.size + 1, 0, none⟩ = some (.int .u8 e0) := cell_at hT1 rfl
        have qhT1_1 : w12.cell? ⟨w.heap.size + 1, 1, none⟩ = some (.int .u8 e1) := cell_at hT1 rfl
        go_wp2_with fail
        refine (c30 (some ⟨gB, 0, none⟩) (some ⟨gp, 0, none⟩) (Im.way c l left b a).length (Im.way c l left b a).length cB cp (ints (Im.way c l left b a)) (ints (Im.way c l left b a)) _ hwl hwl hrB.rd HPA).mono ?_
        rintro e w13 ⟨rfl, hb⟩
        clear qhT0_0 qhT0_1 qhT0_2 qhT1_0 qhT1_1
        have hS := hb
        have hB13 := hB12.call hS rfl
        replace hT0 := blkb hT0 hS
        replace hT1 := blkb hT1 hS
        replace H := H.below hS
        replace HU := HU.below hS
        replace hst := hst.below hS
        replace HPA := HPA.below hS
        replace HWL := HWL.below hS
        replace hbr := hbr.call hS rfl
        clear hS hB12
        have qhT0_0 : w13.cell? ⟨w.heap.size, 0, none⟩ = some (.int .i64 c) := cell_at hT0 rfl
        have qhT0_1 : w13.cell? ⟨w.heap.size, 1, none⟩ = some (.int .i64 r) := cell_at hT0 rfl
        have qhT0_2 : w13.cell? ⟨w.heap.size, 2, none⟩ = some (.slice A n cap) := cell_at hT0 rfl
        have qhT1_0 : w13.cell? ⟨w.heap.size + 1, 0, none⟩ = some (.int .u8 e0) := cell_at hT1 rfl
        have qhT1_1 : w13.cell? ⟨w.heap.size + 1, 1, none⟩ = some (.int .u8 e1) := cell_at hT1 rfl
        clear hb
        clear hrB
        have hdd : decide (ints (Im.way c l left b a) = ints (Im.way c l left b a)) = true := by simp
        rw [hdd]
        clear hdd
        go_wp2_with fail
        refine (d9 c r A n cap l _ (by omega) H).mono ?_
        rintro e w14 ⟨vg7, rfl, hown7, hb⟩
        clear qhT0_0 qhT0_1 qhT0_2 qhT1_0 qhT1_1
        have hS := hb
        have hB14 := hB13.call hS rfl
        replace hT0 := blkb hT0 hS
        replace hT1 := blkb hT1 hS
        replace H := H.below hS
        replace HU := HU.below hS
        replace hst := hst.below hS
        replace HPA := HPA.below hS
        replace HWL := HWL.below hS
        replace hbr := hbr.call hS rfl
        clear hS hB13
        have qhT0_0 : w14.cell? ⟨w.heap.size, 0, none⟩ = some (.int .i64 c) := cell_at hT0 rfl
        have qhT0_1 : w14.cell? ⟨w.heap.size, 1, none⟩ = some (.int .i64 r) := cell_at hT0 rfl
        have qhT0_2 : w14.cell? ⟨w.heap.size, 2, none⟩ = some (.slice A n cap) := cell_at hT0 rfl
        have qhT1_0 : w14.cell? ⟨w.heap.size + 1, 0, none⟩ = some (.int .u8 e0) := cell_at hT1 rfl
        have qhT1_1 : w14.cell? ⟨w.heap.size + 1, 1, none⟩ = some (.int .u8 e1) := cell_at hT1 rfl
        clear hb
        obtain ⟨g7, cg7, rfl, hg7⟩ := RowI.of_own hn0 hown7
        clear hown7
        have HG7 := hg7.rd
        clear hg7
        obtain ⟨wE, hwn⟩ : ∃ V, V = w14.alloc (Obj.cells #[] 3) := ⟨_, rfl⟩
        have hbn : Below w14.heap.size w14 wE := by rw [hwn]; exact (Below.refl _ _).alloc (Nat.le_refl _) _
        have hown0 : wE.ownsRow w14.heap.size 3 1 (.slice (some ⟨w14.heap.size, 0, none⟩) 0 0) 0 [] := own_empty (Nat.le_refl _) (by rw [hwn]; exact heap_new rfl)
        have hszn := hbn.size
        go_wp2_with (at_builtin; rw [← hwn]; refine wpList_plain rfl fun K hK => wp_app_ints _ _ rfl w14.heap.size _ 0 [] us rfl hown0 U m capu rfl (HU.below hbn) (by omega) hszn (fun vA w15 h1 h2 => hK _ _ ?_))
        have hbb := hbn.trans h2
        rw [Nat.zero_add, List.nil_append] at h1
        clear hown0 hszn hwn hbn h2
        clear qhT0_0 qhT0_1 qhT0_2 qhT1_0 qhT1_1
        have hS := hbb
        have hB15 := hB14.call hS rfl
        replace hT0 := blkb hT0 hS
        replace hT1 := blkb hT1 hS
        replace H := H.below hS
        replace HU := HU.below hS
        replace hst := hst.below hS
        replace HPA := HPA.below hS
        replace HWL := HWL.below hS
        replace hbr := hbr.call hS rfl
        replace HG7 := HG7.below hS
        clear hS hB14
        have qhT0_0 : w15.cell? ⟨w.heap.size, 0, none⟩ = some (.int .i64 c) := cell_at hT0 rfl
        have qhT0_1 : w15.cell? ⟨w.heap.size, 1, none⟩ = some (.int .i64 r) := cell_at hT0 rfl
        have qhT0_2 : w15.cell? ⟨w.heap.size, 2, none⟩ = some (.slice A n cap) := cell_at hT0 rfl
        have qhT1_0 : w15.cell? ⟨w.heap.size + 1, 0, none⟩ = some (.int .u8 e0) := cell_at hT1 rfl
        have qhT1_1 : w15.cell? ⟨w.heap.size + 1, 1, none⟩ = some (.int .u8 e1) := cell_at hT1 rfl
        clear hbb
        obtain ⟨A6, cap6, hsl, hrd6⟩ := Sl.of_own h1
        subst hsl
        clear h1
        go_wp2_with fail
        refine (c74_ok c r (some ⟨g7, 0, none⟩) n cg7 l a b A6 m cap6 us _ g hc hr HG7 hst ha hb' (by omega) hrd6).mono ?_
        rintro e w16 ⟨rfl, hb⟩
        clear qhT0_0 qhT0_1 qhT0_2 qhT1_0 qhT1_1
        have hS := hb
        have hB16 := hB15.call hS rfl
        replace hT0 := blkb hT0 hS
        replace hT1 := blkb hT1 hS
        replace H := H.below hS
        replace HU := HU.below hS
        replace hst := hst.below hS
        replace HPA := HPA.below hS
        replace HWL := HWL.below hS
        replace hbr := hbr.call hS rfl
        replace HG7 := HG7.below hS
        clear hS hB15
        have qhT0_0 : w16.cell? ⟨w.heap.size, 0, none⟩ = some (.int .i64 c) := cell_at hT0 rfl
        have qhT0_1 : w16.cell? ⟨w.heap.size, 1, none⟩ = some (.int .i64 r) := cell_at hT0 rfl
        have qhT0_2 : w16.cell? ⟨w.heap.size, 2, none⟩ = some (.slice A n cap) := cell_at hT0 rfl
        have qhT1_0 : w16.cell? ⟨w.heap.size + 1, 0, none⟩ = some (.int .u8 e0) := cell_at hT1 rfl
        have qhT1_1 : w16.cell? ⟨w.heap.size + 1, 1, none⟩ = some (.int .u8 e1) := cell_at hT1 rfl
        clear hb
        clear HG7 hrd6
        generalize potE c l us = PE at HPOT ⊢
        generalize potV c l us a b = PV at HPOT ⊢
        by_cases hpe : PE = 0
        ·
            have hpf : (PE != 0) = false := by simp [hpe]
            have hpv : PV ≤ least := HPOT.out hpe
            have hpd : decide (PV ≤ least) = true := by simp [hpv]
            clear hpe hpv
            go_wp2_with fail
            refine (d7 _ hst).mono ?_
            rintro e wZ ⟨rfl, hb⟩
            have HB := Lib.hid (hB16.call hb rfl)
            clear hb
            go_wp2
            go_ret
            exact ⟨rfl, HB.out⟩
        have hpf : (PE != 0) = true := by simpa using hpe
        go_wp2_with fail
        refine (d7 _ hst).mono ?_
        rintro e wZ ⟨rfl, hb⟩
        have HB := Lib.hid (hB16.call hb rfl)
        clear hb
        go_wp2
        go_ret
        exact ⟨rfl, HB.out⟩
    have hkn2 : (k : Int) < (vs.length : Int) := by omega
    have hk02 : (0 : Int) ≤ (k : Int) := by omega
    have hkw : k < ws.length := by rw [← HCNT.out]; exact hlt
    obtain ⟨vk, hvk, gy, cy, rfl, hry⟩ := HWL.at hkw
    obtain ⟨q, hq1, hq2, _, hq4⟩ := HMEM.out ws[k] (List.getElem_mem hkw)
    rw [List.nil_append] at hq1
    have hgd : ws.getD k [] = ws[k] := by rw [List.getD_eq_getElem?_getD, List.getElem?_eq_getElem hkw]; rfl
    obtain ⟨y, hy⟩ : ∃ y, y = ws[k] := ⟨_, rfl⟩
    rw [← hy] at hvk hry hq1 hq4 hgd
    have hpw : pth c l n none 0 (ints y) = (tm c l y, 0) := by rw [← HLN.out, hq1]; exact pth_way (by rw [HLN.out]; exact ha) hq2
    have hy1 : 0 < y.length := by rw [hq1]; simp
    have hy2 : y.length ≤ 8 := by rw [HLN.out] at hq4; omega
    have HGD := Lib.hid hgd
    have HVK := Lib.hid hvk
    have HPW := Lib.hid hpw
    clear hy hq1 hq2 hq4 hgd hpw
    have hcv := (HCVH.out _ hbr).2 k hlt
    rw [hvk] at hcv
    have hvb := (HCVH.out _ hbr).1
    clear hvk
    go_wp2_with fail
    refine (d9 c r A n cap l _ (by omega) H).mono ?_
    rintro e w13 ⟨vg4, rfl, hown4, hb⟩
    clear qhT0_0 qhT0_1 qhT0_2 qhT1_0 qhT1_1
    have hS := hb
    have hB13 := hB12.call hS rfl
    replace hT0 := blkb hT0 hS
    replace hT1 := blkb hT1 hS
    replace H := H.below hS
    replace HU := HU.below hS
    replace hst := hst.below hS
    replace HPA := HPA.below hS
    replace HWL := HWL.below hS
    replace hbr := hbr.call hS rfl
    replace hry := hry.below hS
    clear hS hB12
    have qhT0_0 : w13.cell? ⟨w.heap.size, 0, none⟩ = some (.int .i64 c) := cell_at hT0 rfl
    have qhT0_1 : w13.cell? ⟨w.heap.size, 1, none⟩ = some (.int .i64 r) := cell_at hT0 rfl
    have qhT0_2 : w13.cell? ⟨w.heap.size, 2, none⟩ = some (.slice A n cap) := cell_at hT0 rfl
    have qhT1_0 : w13.cell? ⟨w.heap.size + 1, 0, none⟩ = some (.int .u8 e0) := cell_at hT1 rfl
    have qhT1_1 : w13.cell? ⟨w.heap.size + 1, 1, none⟩ = some (.int .u8 e1) := cell_at hT1 rfl
    clear hb
    clear hcv hvb
    obtain ⟨g4, cg4, rfl, hg4⟩ := RowI.of_own hn0 hown4
    clear hown4
    have HG4 := hg4.rd
    clear hg4
    obtain ⟨wE, hwn⟩ : ∃ V, V = w13.alloc (Obj.cells #[] 3) := ⟨_, rfl⟩
    have hbn : Below w13.heap.size w13 wE := by rw [hwn]; exact (Below.refl _ _).alloc (Nat.le_refl _) _
    have hown0 : wE.ownsRow w13.heap.size 3 1 (.slice (some ⟨w13.heap.size, 0, none⟩) 0 0) 0 [] := own_empty (Nat.le_refl _) (by rw [hwn]; exact heap_new rfl)
    have hszn := hbn.size
    go_wp2_with (at_builtin; rw [← hwn]; refine wpList_plain rfl fun K hK => wp_app_ints _ _ rfl w13.heap.size _ 0 [] (ints y) rfl hown0 (some ⟨gy, 0, none⟩) y.length cy rfl (hry.rd.below hbn) (by omega) hszn (fun vA w14 h1 h2 => hK _ _ ?_))
    have hbb := hbn.trans h2
    rw [Nat.zero_add, List.nil_append] at h1
    clear hown0 hszn hwn hbn h2
    clear qhT0_0 qhT0_1 qhT0_2 qhT1_0 qhT1_1
    have hS := hbb
    have hB14 := hB13.call hS rfl
    replace hT0 := blkb hT0 hS
    replace hT1 := blkb hT1 hS
    replace H := H.below hS
    replace HU := HU.below hS
    replace hst := hst.below hS
    replace HPA := HPA.below hS
    replace HWL := HWL.below hS
    replace hbr := hbr.call hS rfl
    replace hry := hry.below hS
    replace HG4 := HG4.below hS
    clear hS hB13
    have qhT0_0 : w14.cell? ⟨w.heap.size, 0, none⟩ = some (.int .i64 c) := cell_at hT0 rfl
    have qhT0_1 : w14.cell? ⟨w.heap.size, 1, none⟩ = some (.int .i64 r) := cell_at hT0 rfl
    have qhT0_2 : w14.cell? ⟨w.heap.size, 2, none⟩ = some (.slice A n cap) := cell_at hT0 rfl
    have qhT1_0 : w14.cell? ⟨w.heap.size + 1, 0, none⟩ = some (.int .u8 e0) := cell_at hT1 rfl
    have qhT1_1 : w14.cell? ⟨w.heap.size + 1, 1, none⟩ = some (.int .u8 e1) := cell_at hT1 rfl
    clear hbb
    obtain ⟨g5, cg5, rfl, h5⟩ := RowI.of_own hy1 h1
    clear h1
    go_wp2_with fail
    refine (c73_ok c r (some ⟨g4, 0, none⟩) n cg4 l (some ⟨g5, 0, none⟩) y.length cg5 (ints y) _ g hc hr hy1 (by omega) HG4 h5.rd hst).mono ?_
    rintro e w15 ⟨rfl, hb⟩
    clear qhT0_0 qhT0_1 qhT0_2 qhT1_0 qhT1_1
    have hS := hb
    have hB15 := hB14.call hS rfl
    replace hT0 := blkb hT0 hS
    replace hT1 := blkb hT1 hS
    replace H := H.below hS
    replace HU := HU.below hS
    replace hst := hst.below hS
    replace HPA := HPA.below hS
    replace HWL := HWL.below hS
    replace hbr := hbr.call hS rfl
    replace hry := hry.below hS
    replace HG4 := HG4.below hS
    clear hS hB14
    have qhT0_0 : w15.cell? ⟨w.heap.size, 0, none⟩ = some (.int .i64 c) := cell_at hT0 rfl
    have qhT0_1 : w15.cell? ⟨w.heap.size, 1, none⟩ = some (.int .i64 r) := cell_at hT0 rfl
    have qhT0_2 : w15.cell? ⟨w.heap.size, 2, none⟩ = some (.slice A n cap) := cell_at hT0 rfl
    have qhT1_0 : w15.cell? ⟨w.heap.size + 1, 0, none⟩ = some (.int .u8 e0) := cell_at hT1 rfl
    have qhT1_1 : w15.cell? ⟨w.heap.size + 1, 1, none⟩ = some (.int .u8 e1) := cell_at hT1 rfl
    clear hb
    clear HG4 h5
    rw [HPW.out]
    obtain ⟨T, hT0'⟩ : ∃ T, T = tm c l y := ⟨_, rfl⟩
    rw [← hT0']
    have HT' : Hid (tm c l (ws.getD k []) = T) := Lib.hid (by rw [hT0', HGD.out])
    clear hT0'
    have HN1 := Lib.hid hbr
    by_cases hk0 : k = 0
    ·
        subst hk0
        obtain rfl : u16 = .slice none 0 0 := by
          rcases HBS.out with ⟨_, h, _⟩ | ⟨j, h, _⟩
          · exact h
          · omega
        have HN2 : Hid (Bst c l ws vs (0 + 1) (.slice (some ⟨gy, 0, none⟩) y.length cy) T) := Lib.hid (HBS.out.step HVK.out HT'.out (.inl rfl))
        have qnn := nilnil22
        clear hbr
        go_wp2
        go_roundw
        case rel => exact ⟨0 + 1, T, by omega, rfl, rfl, HN2, HN1.out⟩
        case measure => simp [intOf]; omega
    obtain ⟨gB, nB, cB, rfl⟩ : ∃ gB nB cB, u16 = .slice (some ⟨gB, 0, none⟩) nB cB := by
      rcases HBS.out with ⟨h, _⟩ | ⟨j, h1, h2, _⟩
      · exact absurd h hk0
      · obtain ⟨v', hv', gB, cB, e, _⟩ := HWL.at (k := j) (by omega)
        rw [h2] at hv'
        cases hv'
        exact ⟨gB, _, cB, e⟩
    by_cases htl : T < least
    ·
        have HN2 : Hid (Bst c l ws vs (k + 1) (.slice (some ⟨gy, 0, none⟩) y.length cy) T) := Lib.hid (HBS.out.step HVK.out HT'.out (.inr htl))
        clear hbr
        go_wp2
        go_roundw
        case rel => exact ⟨k + 1, T, by omega, rfl, rfl, HN2, HN1.out⟩
        case measure => simp [intOf]; omega
    have HN2 : Hid (Bst c l ws vs (k + 1) (.slice (some ⟨gB, 0, none⟩) nB cB) least) := Lib.hid (HBS.out.keep HT'.out hk0 htl)
    clear hbr
    go_wp2
    go_roundw
    case rel => exact ⟨k + 1, least, by omega, rfl, rfl, HN2, HN1.out⟩
    case measure => simp [intOf]; omega

end Go.Proofs.YtdimmlljjmmdbaaDoor
/- What an argument of plain data is: the leaves of a struct or an array, one behind the other; a slice of such. -/
namespace Go.Proofs.YtdimmlljjmmdbaaDoor
open Go.RowKit Go.ChangeShapes Go.WideShapes
/-- the leaves of fields that lie one behind the other -/
def leavesF (P : Program) (L : TypeId → Option (List TypeId)) : List Field → Nat → Option (List TypeId)
  | [], _ => some []
  | f :: fs, off =>
    match L f.type with
    | some l => if f.offset = off ∧ P.cellsOf f.type = l.length then (leavesF P L fs (off + l.length)).map (l ++ ·) else none
    | none => none
/-- the leaves of a type of structs and arrays -/
def leaves (P : Program) : Nat → TypeId → Option (List TypeId)
  | 0, _ => none
  | n+1, t =>
    match P.underlying t with
    | some (.struct fs) => (leavesF P (leaves P n) fs.toList 0).bind fun ts => if P.cellsOf t = ts.length then some ts else none
    | some (.array k e) => (leaves P n e).bind fun l => if P.cellsOf e = l.length ∧ P.cellsOf t = k * l.length then some (List.replicate k l).flatten else none
    | some (.int _) => some [t]
    | some .string => some [t]
    | some .bool => some [t]
    | some (.slice _) => some [t]
    | _ => none
section
variable {H : Type} {enc : TypeId × Value → H} {P : Program} {w : World} {base : Nat} {spare : Nat → Bool} {held : Bool}
/-- each cell reads by its leaf's type -/
def LeafAll (enc : TypeId × Value → H) (P : Program) (w : World) (base : Nat) (spare : Nat → Bool) (held : Bool) : List TypeId → List Value → Prop
  | [], [] => True
  | t :: ts, c :: cs => (∃ n y, DataW.trod enc P w base spare held n t [c] = some y) ∧ LeafAll enc P w base spare held ts cs
  | _, _ => False
theorem LeafAll.length : ∀ {ts : List TypeId} {cs : List Value}, LeafAll enc P w base spare held ts cs → cs.length = ts.length
  | [], [], _ => rfl
  | _ :: _, _ :: _, h => by simp [LeafAll.length h.2]
  | [], _ :: _, h => h.elim
  | _ :: _, [], h => h.elim
theorem LeafAll.append : ∀ {ts us : List TypeId} {cs ds : List Value}, LeafAll enc P w base spare held ts cs → LeafAll enc P w base spare held us ds → LeafAll enc P w base spare held (ts ++ us) (cs ++ ds)
  | [], _, [], _, _, h2 => h2
  | _ :: _, _, _ :: _, _, h, h2 => ⟨h.1, LeafAll.append h.2 h2⟩
  | [], _, _ :: _, _, h, _ => h.elim
  | _ :: _, _, [], _, h, _ => h.elim
theorem leavesF_all {L : TypeId → Option (List TypeId)} {cs : List Value} : ∀ (fs : List Field) (off : Nat) (ts : List TypeId), leavesF P L fs off = some ts →
    (∀ f ∈ fs, ∀ l, L f.type = some l → LeafAll enc P w base spare held l ((cs.drop f.offset).take (P.cellsOf f.type))) → LeafAll enc P w base spare held ts ((cs.drop off).take ts.length)
  | [], off, ts, h, _ => by
    simp only [leavesF, Option.some.injEq] at h
    subst h
    simp [LeafAll]
  | f :: fs, off, ts, h, hf => by
    unfold leavesF at h
    cases hL : L f.type with
    | none => rw [hL] at h; cases h
    | some l =>
      rw [hL] at h
      simp only [] at h
      split at h
      · rename_i hc
        cases hr : leavesF P L fs (off + l.length) with
        | none => rw [hr] at h; cases h
        | some r =>
          rw [hr] at h
          simp only [Option.map_some, Option.some.injEq] at h
          subst h
          have h1 := hf f (by simp) l hL
          rw [hc.1, hc.2] at h1
          have h2 := leavesF_all fs (off + l.length) r hr (fun g hg => hf g (by simp [hg]))
          have := h1.append h2
          rw [List.length_append, List.take_add, List.drop_drop]
          exact this
      · cases h
theorem leavesA_all {cs : List Value} {l : List TypeId} : ∀ (k : Nat) (off : Nat), (∀ i, i < k → LeafAll enc P w base spare held l ((cs.drop (off + i * l.length)).take l.length)) →
    LeafAll enc P w base spare held (List.replicate k l).flatten ((cs.drop off).take (k * l.length))
  | 0, _, _ => by simp [LeafAll]
  | k+1, off, h => by
    have h1 := h 0 (by omega)
    rw [Nat.zero_mul, Nat.add_zero] at h1
    have h2 := leavesA_all k (off + l.length) (fun i hi => by
      have := h (i + 1) (by omega)
      rw [show off + l.length + i * l.length = off + (i + 1) * l.length by rw [Nat.add_mul]; omega]
      exact this)
    rw [List.replicate_succ, List.flatten_cons, show (k + 1) * l.length = l.length + k * l.length by rw [Nat.add_mul]; omega, List.take_add, List.drop_drop]
    exact h1.append h2
theorem leaves_trod (n : Nat) : ∀ (t : TypeId) (ts : List TypeId) (fuel : Nat) (cs : List Value) x, leaves P n t = some ts → DataW.trod enc P w base spare held fuel t cs = some x → LeafAll enc P w base spare held ts cs := by
  induction n with
  | zero => intro t ts fuel cs x h; cases h
  | succ n ih =>
    intro t ts fuel cs x h hx
    unfold leaves at h
    split at h
    · rename_i fs hu
      obtain ⟨xs, m, rfl, rfl, hl, hlen, hf⟩ := DataW.trod_struct hu hx
      cases hF : leavesF P (leaves P n) fs.toList 0 with
      | none => rw [hF] at h; cases h
      | some r =>
        rw [hF] at h
        simp only [Option.bind_some] at h
        split at h
        · rename_i hc
          cases h
          have := leavesF_all (enc := enc) (w := w) (base := base) (spare := spare) (held := held) (cs := cs) fs.toList 0 _ hF (fun f hf' l hL => by
            obtain ⟨i, hi, he⟩ := List.mem_iff_getElem.1 hf'
            have hfi : fs[i]? = some f := by
              rw [← he]; simp at hi; simp [hi]
            have h2 := hf i f hfi
            have hxi : i < xs.length := by rw [hlen]; simpa using hi
            rw [List.getElem?_eq_getElem hxi] at h2
            exact ih _ _ _ _ _ hL h2)
          rw [List.drop_zero, List.take_of_length_le (by rw [hl, hc]; exact Nat.le_refl _)] at this
          exact this
        · cases h
    · rename_i k e hu
      obtain ⟨xs, m, rfl, rfl, hl, hlen, hf⟩ := DataW.trod_array hu hx
      cases hL : leaves P n e with
      | none => rw [hL] at h; cases h
      | some l =>
        rw [hL] at h
        simp only [Option.bind_some] at h
        split at h
        · rename_i hc
          cases h
          have hk : cs.length = k * l.length := hl.trans hc.2
          have := leavesA_all (enc := enc) (P := P) (w := w) (base := base) (spare := spare) (held := held) (cs := cs) (l := l) k 0 (fun i hi => by
            have h2 := hf i hi
            rw [List.getElem?_eq_getElem (by omega), hc.1] at h2
            rw [Nat.zero_add]
            exact ih _ _ _ _ _ hL h2)
          rw [List.drop_zero, List.take_of_length_le (by omega)] at this
          exact this
        · cases h
    · rename_i k hu
      cases h
      obtain ⟨v, rfl, _, _⟩ := DataW.trod_int hu hx
      exact ⟨⟨_, _, hx⟩, trivial⟩
    · rename_i hu
      cases h
      obtain ⟨v, rfl, _, _⟩ := DataW.trod_string hu hx
      exact ⟨⟨_, _, hx⟩, trivial⟩
    · rename_i hu
      cases h
      obtain ⟨v, rfl, _⟩ := DataW.trod_bool hu hx
      exact ⟨⟨_, _, hx⟩, trivial⟩
    · rename_i e hu
      cases h
      rcases DataW.trod_slice hu hx with ⟨rfl, _⟩ | ⟨a, len, cap, elems, rest, m, _, rfl, _⟩
      · exact ⟨⟨_, _, hx⟩, trivial⟩
      · exact ⟨⟨_, _, hx⟩, trivial⟩
    · cases h
theorem LeafAll.head {t : TypeId} {ts : List TypeId} {cs : List Value} (h : LeafAll enc P w base spare held (t :: ts) cs) : ∃ c r, cs = c :: r ∧ (∃ n y, DataW.trod enc P w base spare held n t [c] = some y) ∧ LeafAll enc P w base spare held ts r := by
  cases cs with
  | nil => exact h.elim
  | cons c r => exact ⟨c, r, rfl, h.1, h.2⟩
theorem LeafAll.nil {cs : List Value} (h : LeafAll enc P w base spare held [] cs) : cs = [] := by
  cases cs with
  | nil => rfl
  | cons c r => exact h.elim
/-- a first cell that is an integer -/
theorem LeafAll.int {t : TypeId} {ts : List TypeId} {cs : List Value} {k : IntKind} (ht : P.underlying t = some (.int k)) (h : LeafAll enc P w base spare held (t :: ts) cs) : ∃ n r, cs = .int k n :: r ∧ (Lit.int k n).wf = true ∧ LeafAll enc P w base spare held ts r := by
  obtain ⟨c, r, rfl, ⟨n, y, hy⟩, h2⟩ := h.head
  obtain ⟨z, hz, _, hw⟩ := DataW.trod_int ht hy
  cases hz
  exact ⟨z, r, rfl, hw, h2⟩
theorem LeafAll.str {t : TypeId} {ts : List TypeId} {cs : List Value} (ht : P.underlying t = some .string) (h : LeafAll enc P w base spare held (t :: ts) cs) : ∃ s r, cs = .string s :: r ∧ s.size ≤ maxLen ∧ LeafAll enc P w base spare held ts r := by
  obtain ⟨c, r, rfl, ⟨n, y, hy⟩, h2⟩ := h.head
  obtain ⟨z, hz, _, hw⟩ := DataW.trod_string ht hy
  cases hz
  exact ⟨z, r, rfl, hw, h2⟩
/-- a slice whose elements are of leaves alone -/
theorem rdl_open {α : Type} {enc' : α → List Value} {Q : α → Prop} {t e : TypeId} {ts : List TypeId} {size fuel n : Nat} {v : Value} {x : DataW H × List MemPlace} (ht : P.underlying t = some (.slice e)) (hl : leaves P n e = some ts)
    (hs : P.cellsOf e = size) (hlen : ts.length = size) (hpos : 0 < size) (hα : ∀ cs, LeafAll enc P w base spare held ts cs → ∃ x : α, cs = enc' x ∧ Q x) (h : DataW.trod enc P w base spare held fuel t [v] = some x) :
    ∃ A cap l, v = .slice A (List.length l) cap ∧ RdL w size enc' A l ∧ (A = none → cap = 0) ∧ l.length ≤ cap ∧ cap ≤ maxLen ∧ ∀ y ∈ l, Q y := by
  rcases Deep.open_slice ht h with ⟨h1, _⟩ | ⟨a, len, cap, m, k, D, Pl, h1, _, hlc, hcm, hm, _, hel⟩
  · cases h1
    exact ⟨none, 0, [], rfl, ⟨by simp, fun h => absurd h (by simp)⟩, fun _ => rfl, Nat.zero_le _, Nat.zero_le _, by simp⟩
  · cases h1
    have hlm : len ≤ m := by rw [hm]; split <;> omega
    have each : ∀ i, i < len → ∃ y : α, Q y ∧ ∀ j, j < size → w.cell? (a.add (i * size + j)) = (enc' y)[j]? ∧ (enc' y).length = size := by
      intro i hi
      obtain ⟨cs', c1, c2⟩ := hel i (by omega)
      have c3 := leaves_trod n _ _ _ _ _ hl c2
      obtain ⟨y, rfl, hy⟩ := hα _ c3
      obtain ⟨_, hln, hcell⟩ := World.cells?_some c1
      rw [hs] at hln hcell
      refine ⟨y, hy, fun j hj => ⟨?_, hln⟩⟩
      have := hcell j hj
      rw [Deep.add_add] at this
      exact this
    obtain ⟨l, hll, hlq⟩ : ∃ l : List α, l.length = len ∧ ∀ i y, l[i]? = some y → Q y ∧ ∀ j, j < size → w.cell? (a.add (i * size + j)) = (enc' y)[j]? ∧ (enc' y).length = size := by
      clear hel hm hlm h hlc ‹x = _›
      induction len with
      | zero => exact ⟨[], rfl, by simp⟩
      | succ len ih =>
        obtain ⟨l, h1, h2⟩ := ih (fun i hi => each i (by omega))
        obtain ⟨y, h3⟩ := each len (by omega)
        refine ⟨l ++ [y], by simp [h1], fun i z hz => ?_⟩
        by_cases hi : i < l.length
        · rw [List.getElem?_append_left hi] at hz
          exact h2 i z hz
        · have hlt := (List.getElem?_eq_some_iff.1 hz).1
          simp only [List.length_append, List.length_cons, List.length_nil] at hlt
          obtain rfl : i = len := by omega
          rw [List.getElem?_append_right (by omega), h1, Nat.sub_self] at hz
          simp at hz
          subst hz
          exact h3
    have he : ∀ y ∈ l, (enc' y).length = size := by
      intro y hy
      obtain ⟨i, hi, rfl⟩ := List.mem_iff_getElem.1 hy
      exact ((hlq i _ (List.getElem?_eq_getElem hi)).2 0 hpos).2
    have hfl : ∀ (r : List α), (∀ y ∈ r, (enc' y).length = size) → (r.flatMap enc').length = r.length * size := by
      intro r
      induction r with
      | nil => intro _; simp
      | cons y r ih =>
        intro h
        rw [List.flatMap_cons, List.length_append, ih (fun z hz => h z (by simp [hz])), h y (by simp), List.length_cons, Nat.add_mul]; omega
    have hget : ∀ (r : List α), (∀ y ∈ r, (enc' y).length = size) → ∀ (i j : Nat) (y : α), r[i]? = some y → j < size → (r.flatMap enc')[i * size + j]? = (enc' y)[j]? := by
      intro r
      induction r with
      | nil => intro _ i j y hy; simp at hy
      | cons z r ih =>
        intro h i j y hy hj
        cases i with
        | zero =>
          simp at hy; subst hy
          rw [List.flatMap_cons, Nat.zero_mul, Nat.zero_add, List.getElem?_append_left (by rw [h _ (by simp)]; exact hj)]
        | succ i =>
          rw [List.flatMap_cons, List.getElem?_append_right (by rw [h _ (by simp), Nat.add_mul]; omega), h _ (by simp)]
          rw [← ih (fun q hq => h q (by simp [hq])) i j y (by simpa using hy) hj]
          congr 1
          rw [Nat.add_mul]; omega
    refine ⟨some a, cap, l, by rw [hll], ⟨hfl l he, fun h0 => ?_⟩, (fun h => by cases h), by omega, hcm, fun y hy => ?_⟩
    · obtain ⟨b, off, spot⟩ := a
      obtain ⟨y0, hy0⟩ : ∃ y, l[0]? = some y := ⟨_, List.getElem?_eq_getElem h0⟩
      have hc0 := ((hlq 0 y0 hy0).2 0 hpos)
      rw [Nat.zero_mul, Nat.zero_add] at hc0
      obtain ⟨c, hc⟩ : ∃ c, (enc' y0)[0]? = some c := ⟨_, List.getElem?_eq_getElem (by rw [hc0.2]; exact hpos)⟩
      have hcc := hc0.1.trans hc
      have hspot : spot = none := by simpa [Addr.add] using World.cell?_spot hcc
      subst hspot
      refine ⟨b, off, rfl, ?_, fun j hj => ?_⟩
      · have := hcc
        rw [Go.WideShapes.add_plain] at this
        unfold World.cell? at this
        by_cases hb : b < w.heap.size
        · exact hb
        · rw [Array.getElem?_eq_none (Nat.le_of_not_lt hb)] at this
          simp at this
      · rw [hfl l he] at hj
        have hi : j / size < l.length := Nat.div_lt_of_lt_mul (by rw [Nat.mul_comm]; exact hj)
        have hr : j % size < size := Nat.mod_lt _ hpos
        have hq := (hlq _ _ (List.getElem?_eq_getElem hi)).2 _ hr
        have hg := hget l he _ _ _ (List.getElem?_eq_getElem hi) hr
        have hj' : j / size * size + j % size = j := by rw [Nat.mul_comm]; exact Nat.div_add_mod j size
        rw [hj'] at hq hg
        rw [hg, ← hq.1, Go.WideShapes.add_plain]
    · obtain ⟨i, hi, rfl⟩ := List.mem_iff_getElem.1 hy
      exact (hlq i _ (List.getElem?_eq_getElem hi)).1
end
end Go.Proofs.YtdimmlljjmmdbaaDoor
/- From a law's contract to its row. -/
namespace Go.Proofs.YtdimmlljjmmdbaaDoor
open Go.ChangeShapes Go.WideShapes Go.ChangeAt Go.RowKit Go.MakeChecks
set_option maxHeartbeats 1000000
set_option maxRecDepth 100000
theorem Tryd.own : ownKnob Tryd.prog.godebug = none := by kernel_rfl
theorem Tryd.laidOut : laidOutB Tryd.prog = true := by kernel_rfl
section
variable {H : Type} {enc : TypeId × Value → H}
theorem trodAll_below {W W' : World} (hb : Below W.heap.size W W') : ∀ (ts : List TypeId) (vs : List Value) (ds : List (DataW H)) (p : List MemPlace), (∀ t ∈ ts, (Tryd.prog.readableRec t && decide (t < Tryd.prog.types.size)) = true) →
    DataW.TrodAll enc Tryd.prog W 0 (fun _ => true) true ts vs ds p → (∀ x ∈ p, x.block < W.heap.size) → DataW.TrodAll enc Tryd.prog W' 0 (fun b => decide (b < W.heap.size)) true ts vs ds p
  | [], [], [], _, _, h, _ => h
  | t :: ts, v :: vs, d :: ds, p, ht, h, hlt => by
    obtain ⟨p1, q1, h1, h2, rfl⟩ := h
    have hh := ht t (by simp)
    rw [Bool.and_eq_true, decide_eq_true_eq] at hh
    exact ⟨p1, q1, Below.trod Tryd.laidOut hh.1 hh.2 h1 hb (fun x hx => hlt x (by simp [hx])), trodAll_below hb ts vs ds q1 (fun t ht' => ht t (by simp [ht'])) h2 (fun x hx => hlt x (by simp [hx])), rfl⟩
  | [], [], _ :: _, _, _, h, _ => h.elim
  | [], _ :: _, _, _, _, h, _ => h.elim
  | _ :: _, [], _, _, _, h, _ => h.elim
  | _ :: _, _ :: _, [], _, _, h, _ => h.elim
theorem post_law {f : Func} {s : ChangeSpec} {W W' : World} {args : Array Value} {ds gs : List (DataW H)} {before : List MemPlace} (hvars : s.vars = []) (hres : f.resultTypes = #[4]) (hro : (f.params.toList.all fun t => Tryd.prog.readableRec t && decide (t < Tryd.prog.types.size)) = true)
    (hfn : gs = [] → s.fn H (ds ++ gs) = { results := [.lit (.bool true)], args := ds }) (hW : DataW.Whole enc Tryd.prog f.params.toList s.vars false W args.toList ds gs before) (hB : Below W.heap.size W W') : s.post enc Tryd.prog f false true false false W args (.bool true) W' := by
  have hlt := hW.lt
  have hW' := hW
  obtain ⟨p, q, hA, hV, rfl, _, _⟩ := hW
  rw [hvars] at hV
  obtain ⟨rfl, rfl⟩ := trodVars_none hV
  have hf := hfn rfl
  refine ⟨ds, [], p ++ [], [], p, [], hW', ?_, ?_, ?_, hB.frame _, fun h => by cases h⟩
  · rw [hf, hres]; exact trodAll_mk1 (shut_bool Tryd.underlying4 true)
  · rw [hf]
    exact trodAll_below hB _ _ _ _ (List.all_eq_true.1 hro) hA (fun x hx => hlt x (by simp [hx]))
  · rw [hf, hvars]; exact rfl
end
/-- the way from a contract at each shaped world to the row's runs -/
theorem handed_shaped {H : Type} {enc : TypeId × Value → H} {C : Checked} {os : Os} {f : FuncId} {fn : Func} {s : ChangeSpec} {X : World → Array Value → Prop}
    (hX : ∀ (w w' : World) (args : Array Value), w.heap = w'.heap → X w args → X w' args) (own : ownKnob C.prog.godebug = none) (started : os.Started) (noInit : C.prog.inits.idxOf? f = none) (hfn : C.prog.funcs[f]? = some fn)
    (witness : ∃ (w : World) (tape : Tape) (i : Input), w.os = os ∧ (w.forCall tape i).Shaped C.prog ∧ i.vars = [] ∧ Input.okWide C.prog (w.forCall tape i) .any w.heap.size f i ∧
      ((s.pre enc C.prog fn [] false (w.forCall tape i).memory i.args ∧ X (w.forCall tape i).memory i.args) ∧ sizedMet enc C.prog fn (OpenSpec.ofChange s) false (w.forCall tape i).memory i.args) ∧ ({} : Assume).holds C.prog (lone (Frame.enter C.prog f i.args .normal) [] (w.forCall tape i)))
    (contract : ∀ (W : World) (base : Nat) (args : Array Value) (ds gs : List (DataW H)) (before : List MemPlace), W.ShapedOpen C.prog →
      (∀ (j : Nat) t v, fn.params[j]? = some t → args[j]? = some v → Value.okWide C.prog W .any base t v) →
      DataW.Whole enc C.prog fn.params.toList s.vars false W args.toList ds gs before → X W args →
      Calls C.prog f args W fun e W' => ∃ v, e = .returned v ∧ s.post enc C.prog fn false true false false W args v W') :
    ReturnsInHanded {} C os f .any (fun w args => (s.pre enc C.prog fn [] false w args ∧ X w args) ∧ sizedMet enc C.prog fn (OpenSpec.ofChange s) false w args) (s.post enc C.prog fn false true false false) := by
  refine returnsInHanded_of_calls own started noInit witness fun w tape i _ hsh _ hok hpre _ => ?_
  obtain ⟨⟨⟨ds, gs, before, hw, _⟩, hx⟩, _⟩ := hpre
  obtain ⟨_, _, _, fn', hfn', _, _, _, _, hval⟩ := hok
  obtain rfl : fn' = fn := Option.some.inj (hfn'.symm.trans hfn)
  refine (contract (w.forCall tape i) w.heap.size i.args ds gs before hsh hval (DataW.Whole.of_heap (w := (w.forCall tape i).memory) (w' := w.forCall tape i) (by rfl) hw) (hX (w.forCall tape i).memory (w.forCall tape i) _ (by rfl) hx)).mono fun e W' ⟨v, he, hp⟩ => ?_
  subst he
  exact ChangeSpec.post_blind hp
def laidT : List (String × DataW Unit) := Rows.topSprayRaysRow.laid
theorem laid_plain (w : World) (h : laidMetH Tryd.prog laidT w) : laidMet Tryd.prog laidT w := by
  rw [laidMetH_plain Tryd.prog laidT w (by kernel_rfl)] at h
  exact h
section
variable {H : Type} {enc : TypeId × Value → H} {w : World} {base : Nat} {spare : Nat → Bool} {held : Bool}
/-- a pair of integers, read -/
theorem pair_cells {e : TypeId} {n : Nat} {cs : List Value} {x : DataW H × List MemPlace} (ht : Tryd.prog.underlying e = some (.array 2 3)) (h3 : Tryd.prog.cellsOf 3 = 1) (hc : Tryd.prog.cellsOf e = 2)
    (h : DataW.trod enc Tryd.prog w base spare held n e cs = some x) : ∃ a b, cs = [.int .i64 a, .int .i64 b] ∧ x.1 = .agg [.lit (.int .i64 a), .lit (.int .i64 b)] := by
  obtain ⟨xs, m, rfl, rfl, hl, hx, hf⟩ := DataW.trod_array ht h
  rw [hc] at hl
  match cs, hl with
  | [c0, c1], _ =>
    match xs, hx with
    | [x0, x1], _ =>
      have f0 := hf 0 (by omega)
      have f1 := hf 1 (by omega)
      rw [h3] at f0 f1
      obtain ⟨a, ea, ha, _⟩ := DataW.trod_int Tryd.underlying3 (show DataW.trod enc Tryd.prog w base spare held m 3 [c0] = some x0 by simpa using f0)
      obtain ⟨b, eb, hb, _⟩ := DataW.trod_int Tryd.underlying3 (show DataW.trod enc Tryd.prog w base spare held m 3 [c1] = some x1 by simpa using f1)
      simp at ea eb
      subst ea; subst eb; subst ha; subst hb
      exact ⟨a, b, rfl, rfl⟩
end
theorem steps_of (w : World) (h : laidMetH Tryd.prog laidT w) : Steps w := by
  obtain ⟨ps, ⟨g', t', cs, fuel, p, q, hg', ht', hvar, hd, _, _⟩, _⟩ := laid_plain w h
  have hg0 : some g' = some 0 := Eq.trans hg'.symm (by kernel_rfl)
  have hty : (Tryd.prog.globals[0]?).map (·.type) = some 101 := by kernel_rfl
  obtain rfl := Option.some.inj hg0
  obtain rfl := Option.some.inj (hty.symm.trans ht')
  obtain ⟨xs, m, rfl, hx, hl, hn, hf⟩ := DataW.trod_array Tryd.underlying101 hd
  have hc1 : Tryd.prog.cellsOf 101 = 16 := by kernel_rfl
  have hc2 : Tryd.prog.cellsOf 100 = 2 := by kernel_rfl
  have hc3 : Tryd.prog.cellsOf 3 = 1 := by kernel_rfl
  rw [hc1] at hl
  rw [hc2] at hf
  have hxs : Rows.laid_moveout_image_steps = DataW.agg (xs.map (·.1)) := congrArg Prod.fst hx
  have key : ∀ i, i < 8 → ∃ a b, (cs.toList.drop (i * 2)).take 2 = [.int .i64 a, .int .i64 b] ∧ (xs.map (·.1))[i]? = some (.agg [.lit (.int .i64 a), .lit (.int .i64 b)]) := by
    intro i hi
    have h1 := hf i hi
    have hix : i < xs.length := by omega
    rw [List.getElem?_eq_getElem hix] at h1
    obtain ⟨a, b, e1, e2⟩ := pair_cells Tryd.underlying100 hc3 hc2 h1
    exact ⟨a, b, e1, by rw [List.getElem?_map, List.getElem?_eq_getElem hix]; simp [e2]⟩
  have hlist : xs.map (·.1) = [.agg [.lit (.int .i64 (-1)), .lit (.int .i64 (-1))], .agg [.lit (.int .i64 0), .lit (.int .i64 (-1))], .agg [.lit (.int .i64 1), .lit (.int .i64 (-1))], .agg [.lit (.int .i64 (-1)), .lit (.int .i64 0)], .agg [.lit (.int .i64 1), .lit (.int .i64 0)], .agg [.lit (.int .i64 (-1)), .lit (.int .i64 1)], .agg [.lit (.int .i64 0), .lit (.int .i64 1)], .agg [.lit (.int .i64 1), .lit (.int .i64 1)]] := by
    have := hxs.symm
    unfold Rows.laid_moveout_image_steps at this
    simpa using this
  rw [hlist] at key
  have cell : ∀ i, i < 8 → ∀ j, j < 2 → cs.toList[i * 2 + j]? = (encI stepL)[i * 2 + j]? := by
    intro i hi j hj
    obtain ⟨a, b, e1, e2⟩ := key i hi
    have h1 : cs.toList[i * 2 + j]? = ((cs.toList.drop (i * 2)).take 2)[j]? := by
      rw [List.getElem?_take, if_pos hj, List.getElem?_drop]
    rw [h1, e1]
    have h8 : i = 0 ∨ i = 1 ∨ i = 2 ∨ i = 3 ∨ i = 4 ∨ i = 5 ∨ i = 6 ∨ i = 7 := by omega
    have h2 : j = 0 ∨ j = 1 := by omega
    rcases h8 with rfl | rfl | rfl | rfl | rfl | rfl | rfl | rfl <;> simp at e2 <;> obtain ⟨rfl, rfl⟩ := e2 <;> rcases h2 with rfl | rfl <;> rfl
  have hcell : ∀ k, k < 16 → w.cell? ⟨0, k, none⟩ = (encI stepL)[k]? := by
    intro k hk
    have h1 := World.var?_cell hg' hvar k
    rw [h1]
    have h2 := cell (k / 2) (by omega) (k % 2) (by omega)
    rw [show k / 2 * 2 + k % 2 = k by omega] at h2
    rw [← h2, Array.getElem?_toList]
  refine ⟨rfl, fun _ => ⟨0, 0, rfl, ?_, fun j hj => ?_⟩⟩
  · have h0 := hcell 0 (by omega)
    have h1 : (encI stepL)[0]? = some (.int .i64 (-1)) := rfl
    rw [h1] at h0
    unfold World.cell? at h0
    by_cases hb : 0 < w.heap.size
    · exact hb
    · rw [Array.getElem?_eq_none (Nat.le_of_not_lt hb)] at h0
      simp at h0
  · rw [Nat.zero_add]
    exact hcell j (by simpa [encI, stepL] using hj)
section
variable {H : Type} {enc : TypeId × Value → H} {W : World} {base : Nat} {v : Value} {d : DataW H} {p : List MemPlace}
theorem leaf_arg {t : TypeId} {fs : Array Field} {ts : List TypeId} (hs : Tryd.prog.underlying t = some (.struct fs)) (hv : Value.okWide Tryd.prog W .any base t v) (h : DataW.Trod enc Tryd.prog W 0 (fun _ => true) true t v d p) (hl : leaves Tryd.prog 8 t = some ts) :
    ∃ cs : List Value, v = .agg cs.toArray ∧ LeafAll enc Tryd.prog W 0 (fun _ => true) true ts cs := by
  obtain ⟨cs, rfl, _⟩ := okWide_struct hs hv
  obtain ⟨fuel, hf⟩ := h
  exact ⟨cs.toList, by simp, leaves_trod 8 t ts _ _ _ hl hf⟩
theorem leaf_array {t : TypeId} {k : Nat} {e : TypeId} {ts : List TypeId} (hs : Tryd.prog.underlying t = some (.array k e)) (hv : Value.okWide Tryd.prog W .any base t v) (h : DataW.Trod enc Tryd.prog W 0 (fun _ => true) true t v d p) (hl : leaves Tryd.prog 8 t = some ts) :
    ∃ cs : List Value, v = .agg cs.toArray ∧ LeafAll enc Tryd.prog W 0 (fun _ => true) true ts cs := by
  simp only [Value.okWide, hs] at hv
  obtain ⟨cs, rfl, _⟩ := hv
  obtain ⟨fuel, hf⟩ := h
  exact ⟨cs.toList, by simp, leaves_trod 8 t ts _ _ _ hl hf⟩
theorem cell_arg {t e : TypeId} (ht : Tryd.prog.underlying t = some (.slice e)) (hv : Value.okWide Tryd.prog W .any base t v) (h : DataW.Trod enc Tryd.prog W 0 (fun _ => true) true t v d p) : ∃ n y, DataW.trod enc Tryd.prog W 0 (fun _ => true) true n t [v] = some y := by
  obtain ⟨a, len, cap, rfl⟩ := okWide_slice ht hv
  obtain ⟨fuel, hf⟩ := h
  exact ⟨fuel, _, by simpa [Value.cells] using hf⟩
theorem sl22 {n : Nat} {y : DataW H × List MemPlace} (h : DataW.trod enc Tryd.prog W 0 (fun _ => true) true n 22 [v] = some y) : ∃ A cap l, v = .slice A (List.length l) cap ∧ RdI W A l.length l := by
  have hα : ∀ cs, LeafAll enc Tryd.prog W 0 (fun _ => true) true [3] cs → ∃ x : Int, cs = [Value.int .i64 x] ∧ True := by
    intro cs hc0
    obtain ⟨x0, r0, rfl, _, hc1⟩ := hc0.int Tryd.underlying3
    obtain rfl := hc1.nil
    exact ⟨x0, rfl, trivial⟩
  obtain ⟨A, cap, l, h1, h2, _⟩ := rdl_open (enc' := fun x : Int => [Value.int .i64 x]) (Q := fun _ => True) (ts := [3]) (size := 1) (n := 8) Tryd.underlying22 (by kernel_rfl) (by kernel_rfl) rfl (by decide) hα h
  refine ⟨A, cap, l, h1, ?_⟩
  have e : ∀ l : List Int, l.flatMap (fun x => [Value.int .i64 x]) = encI l := by
    intro l
    induction l with
    | nil => rfl
    | cons a l ih => simp [encI, ih]
  unfold RdL at h2
  rw [e] at h2
  exact h2
theorem open_ints (hv : Value.okWide Tryd.prog W .any base 22 v) (h : DataW.Trod enc Tryd.prog W 0 (fun _ => true) true 22 v d p) : ∃ A cap l, v = .slice A (List.length l) cap ∧ RdI W A l.length l := by
  obtain ⟨n, y, h1⟩ := cell_arg Tryd.underlying22 hv h
  exact sl22 h1
theorem open_ground (hv : Value.okWide Tryd.prog W .any base 24 v) (h : DataW.Trod enc Tryd.prog W 0 (fun _ => true) true 24 v d p) : ∃ c r A cap l, v = .agg #[.int .i64 c, .int .i64 r, .slice A (List.length l) cap] ∧ RdI W A l.length l := by
  obtain ⟨cs, rfl, hc0⟩ := leaf_arg (ts := [3, 3, 22]) Tryd.underlying24 hv h (by kernel_rfl)
  obtain ⟨x0, r0, rfl, _, hc1⟩ := hc0.int Tryd.underlying3
  obtain ⟨x1, r1, rfl, _, hc2⟩ := hc1.int Tryd.underlying3
  obtain ⟨x2, r2, rfl, ⟨n, y, h2⟩, hc3⟩ := hc2.head
  obtain rfl := hc3.nil
  obtain ⟨A, cap, l, rfl, hr⟩ := sl22 h2
  exact ⟨x0, x1, A, cap, l, rfl, hr⟩
theorem u8_nat {x : Int} (h : (Lit.int .u8 x).wf = true) : ∃ e : Nat, x = e ∧ e < 256 := by
  simp only [Lit.wf, Bool.and_eq_true, decide_eq_true_eq] at h
  obtain ⟨h1, h2⟩ := h
  have h3 : (0 : Int) ≤ x := h1
  have h4 : x ≤ 255 := h2
  exact ⟨x.toNat, by omega, by omega⟩
theorem open_ends (hv : Value.okWide Tryd.prog W .any base 25 v) (h : DataW.Trod enc Tryd.prog W 0 (fun _ => true) true 25 v d p) : ∃ e0 e1 : Nat, v = .agg #[.int .u8 e0, .int .u8 e1] ∧ e0 < 256 ∧ e1 < 256 := by
  obtain ⟨cs, rfl, hc0⟩ := leaf_array (ts := [5, 5]) Tryd.underlying25 hv h (by kernel_rfl)
  obtain ⟨x0, r0, rfl, w0, hc1⟩ := hc0.int Tryd.underlying5
  obtain ⟨x1, r1, rfl, w1, hc2⟩ := hc1.int Tryd.underlying5
  obtain rfl := hc2.nil
  obtain ⟨e0, rfl, h0⟩ := u8_nat w0
  obtain ⟨e1, rfl, h1⟩ := u8_nat w1
  exact ⟨e0, e1, rfl, h0, h1⟩
end
end Go.Proofs.YtdimmlljjmmdbaaDoor
