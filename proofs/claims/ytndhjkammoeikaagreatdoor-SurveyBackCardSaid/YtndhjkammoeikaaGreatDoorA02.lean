/- A part of the proofs about chapter 9: contracts of functions and plain laws (W7, Model3, W8, Base2, Float, Blk, W9, Base3, Model4, W10, Model5, W11). -/
import Derived.Deep.MidRow
import Derived.WalkKit
import Derived.Test.YtndhjkammoeikaaGreatDoorA01
set_option linter.all false
namespace Go.Proofs.YtndhjkammoeikaaGreatDoor
open Go.RowKit
set_option maxHeartbeats 400000

theorem c29 (A : Option Addr) (cap : Nat) (l : List Sgt) (w : World) (hlen : l.length ≤ 1000000) (H : RdL w 3 Sgt.enc A l) :
    Calls Tryz.prog 29 #[.slice A l.length cap] w fun en w' => en = .returned (.int .i64 (Mo.sightings l)) ∧ Below w.heap.size w w' := by
  obtain ⟨n, hn⟩ : ∃ n, n = l.length := ⟨_, rfl⟩
  rw [← hn] at hlen ⊢
  have Hn := Lib.hid hn
  clear hn
  by_cases hn : 64 < n
  · go_enter Tryz.func29, Tryz.ntmps29
    go_wp2
    go_ret
    exact ⟨ret_int (by simp [Mo.sightings, Mo.each, ← Hn.out, hn]), Below.refl _ _⟩
  · have hmo : Hid (Mo.sightings l = Mo.first ((List.range n).map (Mo.sgt1 l))) := by show _ = _; simp [Mo.sightings, Mo.each, ← Hn.out, hn]
    go_enter Tryz.func29, Tryz.ntmps29
    go_wp2
    go_loopw [3] (fun i wr => ∃ k : Nat, k ≤ n ∧ i = .int .i64 k ∧ Below w.heap.size w wr ∧ Mo.sightings l = Mo.first (((List.range n).map (Mo.sgt1 l)).drop k)) (fun i _ => n - (intOf i).toNat)
    case atStart => exact ⟨0, Nat.zero_le _, rfl, Below.refl _ _, by rw [hmo.out]; rfl⟩
    case round =>
      obtain ⟨k, hk, rfl, hB, he⟩ := hrel
      have HE := Lib.hid he
      clear he
      by_cases hlt : k < n
      · obtain ⟨b, off, s, rfl, hx, hb, hc⟩ := (H.below hB).at Sgt.len (by rw [← Hn.out]; exact hlt)
        have Hx := Lib.hid hx
        have Hs := Lib.hid (Mo.first_range n k (Mo.sgt1 l) hlt)
        have h0 : wr.cell? ⟨b, off + k * 3, none⟩ = some (.int .i64 s.t) := hc 0 (by omega)
        have h1 : wr.cell? ⟨b, off + k * 3 + 1, none⟩ = some (.int .i64 s.x) := hc 1 (by omega)
        have h2 : wr.cell? ⟨b, off + k * 3 + 2, none⟩ = some (.int .i64 s.y) := hc 2 (by omega)
        clear hc hx
        go_wp2
        refine wp_region_splitG 12 (by kernel_rfl) (by kernel_rfl) ?_
        simp only [List.take_succ_cons, List.take_zero, List.drop_succ_cons, List.drop_zero]
        repeat (go_big_quiet_step ((first | (go_at_call 49; exact Calls.gw_same (c49 _ _ _ _)) | (go_at_call 97; exact Calls.gw_of (c97 _ _ _ _ (by omega) (by omega))))))
        refine wpQuiet_nil (gw_out ?_)
        intro w1 hb1
        go_wp2_with (first | (go_at_call 92; refine (c92 _ 2 _ [Mo.range s.t 0 100000, Mo.point s.x s.y 100000] _ rfl (by omega) ?_).mono ?_; (first | exact RdS.of_new (by simp) rfl | exact RdS.drew (RdS.of_new (by simp) rfl)); rintro e w' ⟨rfl, rfl⟩))
        · go_ret
          have hne : (Mo.first [Mo.range s.t 0 100000, Mo.point s.x s.y 100000] != 0) = true := by assumption
          have hne' : Mo.first [Mo.range s.t 0 100000, Mo.point s.x s.y 100000] ≠ 0 := by simpa using hne
          have hf : Mo.sgt1 l k = Mo.first [Mo.range s.t 0 100000, Mo.point s.x s.y 100000] := by rw [Mo.sgt1_eq Hx.out _ rfl, if_pos hne']
          exact ⟨ret_int (by rw [HE.out, Hs.out, hf, if_pos hne']), fin1 hB hb1 _⟩
        · have hz' : (Mo.first [Mo.range s.t 0 100000, Mo.point s.x s.y 100000] != 0) = false := by assumption
          have hz : Mo.first [Mo.range s.t 0 100000, Mo.point s.x s.y 100000] = 0 := by simpa using hz'
          have HZ := Lib.hid hz
          have hB2 := fin1 hB hb1 (Obj.cells #[.int .i64 (Mo.range s.t 0 100000), .int .i64 (Mo.point s.x s.y 100000)] 3)
          have h02 : (w1.alloc (Obj.cells #[.int .i64 (Mo.range s.t 0 100000), .int .i64 (Mo.point s.x s.y 100000)] 3)).cell? ⟨b, off + k * 3, none⟩ = some (.int .i64 s.t) := ((((Below.refl wr.heap.size w1).alloc hb1.size _).cell hb).trans (hb1.cell hb)).trans h0
          obtain ⟨W2, hW2⟩ : ∃ W2, W2 = w1.alloc (Obj.cells #[.int .i64 (Mo.range s.t 0 100000), .int .i64 (Mo.point s.x s.y 100000)] 3) := ⟨_, rfl⟩
          have hbW : b < W2.heap.size := by rw [hW2]; have := hb1.size; simp; omega
          rw [← hW2] at hB2 h02 ⊢
          have hcc : True := trivial
          clear hz hz' hW2 h0 h1 h2

          rcases Nat.eq_zero_or_pos k with hk0 | hk0
          · subst hk0
            have hfin : Hid (Mo.sgt1 l 0 = 0) := by show _ = _; rw [Mo.sgt1_eq Hx.out false (by simp), if_neg (by rw [HZ.out]; simp)]; rfl
            clear hcc
            refine wp_region_growG (by kernel_rfl) (by kernel_rfl) ?_
            repeat (go_big_quiet_step ((first | fail)))
            refine wpQuiet_nil (gw_out ?_)
            intro w3 hb3
            go_wp2
            go_roundw
            case rel => exact ⟨1, by omega, by go_num, fin0 hB2 hb3, by rw [HE.out, Hs.out, if_neg (by rw [hfin.out]; simp)]⟩
            case measure => simp [intOf]; omega
          · obtain ⟨b', off', q, hbb, hq, hb', hc'⟩ := (H.below hB2).at Sgt.len (k := k - 1) (by rw [← Hn.out]; omega)
            obtain ⟨rfl, rfl⟩ : b = b' ∧ off = off' := by simpa using hbb
            have hq0 : W2.cell? ⟨b, off + (k - 1) * 3, none⟩ = some (.int .i64 q.t) := hc' 0 (by omega)
            have Hq := Lib.hid hq
            have hmx : ((k:Int) - 1).toNat = k - 1 := by omega
            have hfin : Hid (Mo.sgt1 l k = Mo.when (decide (s.t < q.t)) 11) := by show _ = _; rw [Mo.sgt1_eq Hx.out (decide (s.t < q.t)) (by rw [Hq.out]; simp [hk0]), if_neg (by rw [HZ.out]; simp)]
            clear hc' hq hbb hcc
            refine wp_region_growG (by kernel_rfl) (by kernel_rfl) ?_
            repeat (go_big_quiet_step ((first | fail)))
            refine wpQuiet_nil (gw_out ?_)
            intro w3 hb3
            go_wp2
            · go_ret
              have hlt' : s.t < q.t := by assumption
              exact ⟨ret_int (by rw [HE.out, Hs.out, hfin.out]; simp [Mo.when, hlt']), fin0 hB2 hb3⟩
            · go_roundw
              have hge : ¬ s.t < q.t := by omega
              case rel => exact ⟨k + 1, by omega, by go_num, fin0 hB2 hb3, by rw [HE.out, Hs.out, if_neg (by rw [hfin.out]; simp [Mo.when, hge])]⟩
              case measure => simp [intOf]; omega
      · go_wp2
        go_ret
        exact ⟨ret_int (by rw [HE.out, Mo.first_range_end _ _ _ (by omega)]), hB⟩

theorem c48 (A : Option Addr) (cap : Nat) (l : List Spn) (w : World) (hlen : l.length ≤ 1000000) (H : RdL w 2 Spn.enc A l) :
    Calls Tryz.prog 48 #[.slice A l.length cap] w fun en w' => en = .returned (.int .i64 (Mo.spans l)) ∧ Below w.heap.size w w' := by
  obtain ⟨n, hn⟩ : ∃ n, n = l.length := ⟨_, rfl⟩
  rw [← hn] at hlen ⊢
  have Hn := Lib.hid hn
  clear hn
  by_cases hn : 256 < n
  · go_enter Tryz.func48, Tryz.ntmps48
    go_wp2
    go_ret
    exact ⟨ret_int (by simp [Mo.spans, Mo.each, ← Hn.out, hn]), Below.refl _ _⟩
  · have hmo : Hid (Mo.spans l = Mo.first ((List.range n).map (Mo.spn1 l))) := by show _ = _; simp [Mo.spans, Mo.each, ← Hn.out, hn]
    go_enter Tryz.func48, Tryz.ntmps48
    go_wp2
    go_loopw [3] (fun i wr => ∃ k : Nat, k ≤ n ∧ i = .int .i64 k ∧ Below w.heap.size w wr ∧ Mo.spans l = Mo.first (((List.range n).map (Mo.spn1 l)).drop k)) (fun i _ => n - (intOf i).toNat)
    case atStart => exact ⟨0, Nat.zero_le _, rfl, Below.refl _ _, by rw [hmo.out]; rfl⟩
    case round =>
      obtain ⟨k, hk, rfl, hB, he⟩ := hrel
      have HE := Lib.hid he
      clear he
      by_cases hlt : k < n
      · obtain ⟨b, off, s, rfl, hx, hb, hc⟩ := (H.below hB).at Spn.len (by rw [← Hn.out]; exact hlt)
        have Hx := Lib.hid hx
        have Hs := Lib.hid (Mo.first_range n k (Mo.spn1 l) hlt)
        have h0 : wr.cell? ⟨b, off + k * 2, none⟩ = some (.int .i64 s.f) := hc 0 (by omega)
        have h1 : wr.cell? ⟨b, off + k * 2 + 1, none⟩ = some (.int .i64 s.t) := hc 1 (by omega)
        clear hc hx
        go_wp2_with fail
        refine (c111 _ _ _).mono ?_
        rintro e W2 ⟨rfl, hb1⟩
        have hB2 := fin0 hB hb1
        have h02 : W2.cell? ⟨b, off + k * 2, none⟩ = some (.int .i64 s.f) := (hb1.cell hb).trans h0
        have hbW : b < W2.heap.size := by have := hb1.size; omega
        have hcc : True := trivial
        clear h0 h1
        cases hbad : Mo.badSpan s.f s.t
        · have HZ : Hid (Mo.badSpan s.f s.t = false) := hbad
          clear hbad
          go_wp2

          rcases Nat.eq_zero_or_pos k with hk0 | hk0
          · subst hk0
            have hfin : Hid (Mo.spn1 l 0 = 0) := by show _ = _; rw [Mo.spn1_eq Hx.out false (by simp), if_neg (by rw [HZ.out]; simp)]; rfl
            clear hcc
            refine wp_region_growG (by kernel_rfl) (by kernel_rfl) ?_
            repeat (go_big_quiet_step ((first | fail)))
            refine wpQuiet_nil (gw_out ?_)
            intro w3 hb3
            go_wp2
            go_roundw
            case rel => exact ⟨1, by omega, by go_num, fin0 hB2 hb3, by rw [HE.out, Hs.out, if_neg (by rw [hfin.out]; simp)]⟩
            case measure => simp [intOf]; omega
          · obtain ⟨b', off', q, hbb, hq, hb', hc'⟩ := (H.below hB2).at Spn.len (k := k - 1) (by rw [← Hn.out]; omega)
            obtain ⟨rfl, rfl⟩ : b = b' ∧ off = off' := by simpa using hbb
            have hq0 : W2.cell? ⟨b, off + (k - 1) * 2 + 1, none⟩ = some (.int .i64 q.t) := hc' 1 (by omega)
            have Hq := Lib.hid hq
            have hmx : ((k:Int) - 1).toNat = k - 1 := by omega
            have hfin : Hid (Mo.spn1 l k = Mo.when (decide (s.f < q.t)) 11) := by show _ = _; rw [Mo.spn1_eq Hx.out (decide (s.f < q.t)) (by rw [Hq.out]; simp [hk0]), if_neg (by rw [HZ.out]; simp)]
            clear hc' hq hbb hcc
            refine wp_region_growG (by kernel_rfl) (by kernel_rfl) ?_
            repeat (go_big_quiet_step ((first | fail)))
            refine wpQuiet_nil (gw_out ?_)
            intro w3 hb3
            go_wp2
            · go_ret
              have hlt' : s.f < q.t := by assumption
              exact ⟨ret_int (by rw [HE.out, Hs.out, hfin.out]; simp [Mo.when, hlt']), fin0 hB2 hb3⟩
            · go_roundw
              have hge : ¬ s.f < q.t := by omega
              case rel => exact ⟨k + 1, by omega, by go_num, fin0 hB2 hb3, by rw [HE.out, Hs.out, if_neg (by rw [hfin.out]; simp [Mo.when, hge])]⟩
              case measure => simp [intOf]; omega
        · have HZ : Hid (Mo.badSpan s.f s.t = true) := hbad
          clear hbad
          go_wp2
          go_ret
          exact ⟨ret_int (by rw [HE.out, Hs.out, Mo.spn1_eq Hx.out _ rfl, if_pos HZ.out]; rfl), hB2⟩
      · go_wp2
        go_ret
        exact ⟨ret_int (by rw [HE.out, Mo.first_range_end _ _ _ (by omega)]), hB⟩

end Go.Proofs.YtndhjkammoeikaaGreatDoor
namespace Go.Proofs.YtndhjkammoeikaaGreatDoor
structure Ves where
  sx : Int
  sy : Int
  dx : Int
  dy : Int
  n : Int
structure Wat where
  ring : Int
  speed : Int
  loss : Int
  clear : Int
  soft : Int
namespace Mo
def ves (v : Ves) : Int := vessel v.sx v.sy v.dx v.dy v.n
def wat (v : Wat) : Int := watch v.ring v.speed v.loss v.clear v.soft
def all (v : Ves) (w : Wat) (l : List Sgt) : Int := first [ves v, wat w, sightings l]
end Mo
end Go.Proofs.YtndhjkammoeikaaGreatDoor
namespace Go.Proofs.YtndhjkammoeikaaGreatDoor
open Go.RowKit
set_option maxHeartbeats 400000

theorem c20 (v : Ves) (u : Wat) (A : Option Addr) (cap : Nat) (l : List Sgt) (w : World) (hlen : l.length ≤ 1000000) (H : RdL w 3 Sgt.enc A l) :
    Calls Tryz.prog 20 #[.agg #[.int .i64 v.sx, .int .i64 v.sy, .int .i64 v.dx, .int .i64 v.dy, .int .i64 v.n], .agg #[.int .i64 u.ring, .int .i64 u.speed, .int .i64 u.loss, .int .i64 u.clear, .int .i64 u.soft], .slice A l.length cap] w fun en w' => en = .returned (.int .i64 (Mo.all v u l)) ∧ Below w.heap.size w w' := by
  obtain ⟨W, hW⟩ : ∃ W, W = (w.alloc (Obj.cells #[.int .i64 v.sx, .int .i64 v.sy, .int .i64 v.dx, .int .i64 v.dy, .int .i64 v.n] 25)).alloc (Obj.cells #[.int .i64 u.ring, .int .i64 u.speed, .int .i64 u.loss, .int .i64 u.clear, .int .i64 u.soft] 27) := ⟨_, rfl⟩
  have hk0 : W.cell? ⟨w.heap.size, 0, none⟩ = some (.int .i64 v.sx) := by simp [hW]
  have hk1 : W.cell? ⟨w.heap.size, 1, none⟩ = some (.int .i64 v.sy) := by simp [hW]
  have hk2 : W.cell? ⟨w.heap.size, 2, none⟩ = some (.int .i64 v.dx) := by simp [hW]
  have hk3 : W.cell? ⟨w.heap.size, 3, none⟩ = some (.int .i64 v.dy) := by simp [hW]
  have hk4 : W.cell? ⟨w.heap.size, 4, none⟩ = some (.int .i64 v.n) := by simp [hW]
  have hj0 : W.cell? ⟨w.heap.size + 1, 0, none⟩ = some (.int .i64 u.ring) := by simp [hW]
  have hj1 : W.cell? ⟨w.heap.size + 1, 1, none⟩ = some (.int .i64 u.speed) := by simp [hW]
  have hj2 : W.cell? ⟨w.heap.size + 1, 2, none⟩ = some (.int .i64 u.loss) := by simp [hW]
  have hj3 : W.cell? ⟨w.heap.size + 1, 3, none⟩ = some (.int .i64 u.clear) := by simp [hW]
  have hj4 : W.cell? ⟨w.heap.size + 1, 4, none⟩ = some (.int .i64 u.soft) := by simp [hW]
  have hs : w.heap.size < W.heap.size := by simp [hW]; omega
  have hs1 : w.heap.size + 1 < W.heap.size := by simp [hW]
  have hB : Below w.heap.size w W := by rw [hW]; exact ((Below.refl _ _).alloc (Nat.le_refl _) _).alloc (by simp) _
  have HW := H.below hB
  clear H
  obtain ⟨n, hn⟩ : ∃ n, n = l.length := ⟨_, rfl⟩
  have Hn := Lib.hid hn
  have HC : ∀ p, Hid (Calls Tryz.prog 29 #[.slice A n cap] (gw W p) fun en w' => en = .returned (.int .i64 (Mo.sightings l)) ∧ Below (gw W p).heap.size (gw W p) w') := fun p => by
    rw [Hn.out]; exact Lib.hid (c29 A cap l _ hlen (HW.below (gw_below W p)))
  rw [← hn]
  clear hn HW
  go_enter Tryz.func20, Tryz.ntmps20
  go_wp2
  rw [← hW]
  clear hW
  refine wp_region_splitG 6 (by kernel_rfl) (by kernel_rfl) ?_
  simp only [List.take_succ_cons, List.take_zero, List.drop_succ_cons, List.drop_zero]
  repeat (go_big_quiet_step ((first | (go_at_call 25; exact Calls.gw_of (c25 _ _ _ _ _ _)) | (go_at_call 27; exact Calls.gw_of (c27 _ _ _ _ _ _)) | (go_at_call 29; exact Calls.gw_of (HC _).out))))
  refine wpQuiet_nil (gw_out ?_)
  intro w1 hb1
  go_wp2_with (first | (go_at_call 92; refine (c92 _ 3 _ [Mo.ves v, Mo.wat u, Mo.sightings l] _ rfl (by omega) ?_).mono ?_; (first | exact RdS.of_new (by simp) rfl | exact RdS.drew (RdS.of_new (by simp) rfl)); rintro e w' ⟨rfl, rfl⟩))
  go_ret
  exact ⟨rfl, fin1 hB hb1 _⟩

end Go.Proofs.YtndhjkammoeikaaGreatDoor
namespace Go.Proofs.YtndhjkammoeikaaGreatDoor
open Go.RowKit
theorem keepB_alloc {B : Nat} {W w1 : World} (ob : Obj) (h : (∀ b o, b < B → w1.cell? ⟨b, o, none⟩ = W.cell? ⟨b, o, none⟩) ∧ Below B W w1) (hB : B ≤ W.heap.size) :
    (∀ b o, b < B → (w1.alloc ob).cell? ⟨b, o, none⟩ = W.cell? ⟨b, o, none⟩) ∧ Below B W (w1.alloc ob) :=
  keepB_of (h.2.alloc (Nat.le_trans hB h.2.size) ob)
theorem keepB_set {B : Nat} {W w1 : World} {p : Addr} {u : Value} (h : (∀ b o, b < B → w1.cell? ⟨b, o, none⟩ = W.cell? ⟨b, o, none⟩) ∧ Below B W w1) (hp : B ≤ p.block) :
    (∀ b o, b < B → (w1.setCell p u).cell? ⟨b, o, none⟩ = W.cell? ⟨b, o, none⟩) ∧ Below B W (w1.setCell p u) :=
  keepB_of (h.2.setCell hp u)
theorem keepB_sets {B : Nat} {W w1 w2 : World} (h : (∀ b o, b < B → w1.cell? ⟨b, o, none⟩ = W.cell? ⟨b, o, none⟩) ∧ Below B W w1) (h2 : Below B w1 w2) :
    (∀ b o, b < B → w2.cell? ⟨b, o, none⟩ = W.cell? ⟨b, o, none⟩) ∧ Below B W w2 := keepB_of (h.2.trans h2)
end Go.Proofs.YtndhjkammoeikaaGreatDoor
/- A region that draws its order: a front part of operations that read or call what reads or grows, beside a rest that can come up in one order only; operations of the rest may come up before operations of the front for which they do not wait. -/
namespace Go
open Go.RowKit
section
variable {P : Program} {ops : Array Oper} {md : Region.Mode} {C : World → Prop} {Q : Exit → Act → World → Prop}

/-- quiet, what a call leaves being a growth of what it got -/
def Oper.softUpon (P : Program) (w : World) (v : Value) : Result Next → Prop
  | .ok (.value u) w' => w' = w ∧ u = v
  | .ok .skip w' => w' = w ∧ v = undef
  | .ok (.enter f args) w' => w' = w ∧ Calls P f args w (fun e w'' => e = .returned v ∧ Below w.heap.size w w'')
  | _ => False
def Oper.softAt (P : Program) (o : Oper) (a : Act) (w : World) (v : Value) : Prop := Oper.softUpon P w v ((execOp a.eval o).run P w)

def SoftIn (P : Program) (ops : Array Oper) (C : World → Prop) (o : Oper) (v : Value) (a : Act) : Prop :=
  (Region.wanted o (yielded ops a.tmps) = true ∧ ∀ w, C w → o.softAt P a w v) ∨
  (Region.wanted o (yielded ops a.tmps) = false ∧ v = undef)

theorem SoftIn.of_same {o : Oper} {v : Value} {a a' : Act} (hy : SoftIn P ops C o v a) (he : execOp a'.eval o = execOp a.eval o)
    (hw : Region.wanted o (yielded ops a'.tmps) = Region.wanted o (yielded ops a.tmps)) : SoftIn P ops C o v a' := by
  unfold SoftIn Oper.softAt at *
  rw [he, hw]
  exact hy

theorem SoftIn.wpOp {i : Nat} {o : Oper} {v : Value} {a : Act} (hi : ops[i]? = some o) (hy : SoftIn P ops C o v a)
    {K : Act → World → Prop} {w : World} (hC : C w) (h : ∀ w', Below w.heap.size w w' → K (a.put o.dst v) w') : wpOp P ops Q i K a w := by
  unfold Go.wpOp
  simp only [hi]
  rcases hy with ⟨hw, hv⟩ | ⟨hw, rfl⟩
  · simp only [hw, if_true]
    refine .inl ?_
    have h3 := hv w hC
    unfold Oper.softAt at h3
    unfold Oper.wp
    generalize (execOp a.eval o).run P w = r at *
    cases r with
    | ok n w' =>
      cases n <;> simp only [Oper.softUpon] at h3 <;> simp only [Oper.upon]
      case value u => obtain ⟨e1, e2⟩ := h3; rw [e1, e2]; exact h _ (Below.refl _ _)
      case skip => obtain ⟨e1, e2⟩ := h3; rw [e1, ← e2]; exact h _ (Below.refl _ _)
      case enter f args =>
        obtain ⟨e1, hc⟩ := h3
        rw [e1]
        exact hc.mono fun e w'' ⟨he, hw''⟩ => by subst he; exact h _ hw''
    | halt x w' => simp only [Oper.softUpon] at h3
  · simp only [hw, Bool.false_eq_true, if_false]; exact h _ (Below.refl _ _)

theorem wpOp_putSoft {j : Nat} {oi oj : Oper} {v : Value} (hj : ops[j]? = some oj) (hap : oi.apart ops oj = true)
    (hsi : ∀ cs b, oi.op ≠ .select cs b) (hsj : ∀ cs b, oj.op ≠ .select cs b)
    (hQ : ∀ c a d v w, Q (.panic c) (a.put d v) w → Q (.panic c) a w) {K : Act → World → Prop} {a : Act} {w : World}
    (hy : SoftIn P ops C oi v a) (h : wpOp P ops Q j K (a.put oi.dst v) w) :
    wpOp P ops Q j (fun a' w' => SoftIn P ops C oi v a' ∧ K (a'.put oi.dst v) w') a w := by
  obtain ⟨h1, h2, h3⟩ := Oper.apart_spec hap
  have keep : ∀ (a : Act), SoftIn P ops C oi v a → ∀ u, SoftIn P ops C oi v (a.put oj.dst u) := fun a hy u =>
    hy.of_same (execOp_put oi hsi a oj.dst u h3) (wanted_put oi a oj.dst u h3)
  have keepD : ∀ d, SoftIn P ops C oi v { a with defers := d :: a.defers } := fun d => hy.of_same rfl rfl
  unfold wpOp at *
  simp only [hj] at *
  rw [wanted_put oj a oi.dst v h1] at h
  split
  · rename_i hw
    simp only [hw, if_true] at h
    rcases h with h | ⟨hasks, hlets⟩
    case inr => exact .inr ⟨by unfold Oper.asks at *; rw [execOp_put oj hsj a oi.dst v h1] at hasks; exact hasks, hlets⟩
    refine .inl ?_
    unfold Oper.wp at *
    rw [execOp_put oj hsj a oi.dst v h1] at h
    generalize (execOp a.eval oj).run P w = r at *
    cases r with
    | ok n w' =>
      cases n <;> simp only [Oper.upon] at h ⊢
      case value u => exact ⟨keep a hy u, by rw [← Act.put_comm a v u h2]; exact h⟩
      case skip => exact ⟨keep a hy _, by rw [← Act.put_comm a v undef h2]; exact h⟩
      case defer d =>
        refine ⟨keep _ (keepD d) _, ?_⟩
        rw [← Act.put_comm _ v undef h2, ← Act.put_defers]
        exact h
      case enter f args =>
        refine Calls.mono h fun e w'' he => ?_
        cases e with
        | returned u => exact ⟨keep a hy u, by rw [← Act.put_comm a v u h2]; exact he⟩
        | panicked c => exact hQ _ _ _ _ _ he
        | outgrown => exact he
      case row row args => exact Rows.mono h fun u w'' he => ⟨keep a hy u, by rw [← Act.put_comm a v u h2]; exact he⟩
    | halt x w' =>
      cases x <;> simp only [Oper.upon] at h ⊢
      case panic u => exact hQ _ _ _ _ _ h
  · rename_i hw
    simp only [hw] at h
    exact ⟨keep a hy _, by rw [← Act.put_comm a v undef h2]; exact h⟩

/-- whatever comes up; the class is kept, and what is asked behind an operation is asked in every growth of the world that it left -/
def wpAnyT (P : Program) (md : Region.Mode) (ops : Array Oper) (C : World → Prop) (Q : Exit → Act → World → Prop) : Nat → Array Bool → Act → World → Prop
  | 0, listed, a, w => Region.ready md ops listed = [] ∧ Q .normal a w
  | fuel + 1, listed, a, w =>
    (Region.ready md ops listed = [] → Q .normal a w) ∧
    ∀ i ∈ Region.ready md ops listed, wpOp P ops Q i (fun a' w' => C w' ∧ ∀ w'', Below w'.heap.size w' w'' → wpAnyT P md ops C Q fuel (listed.setIfInBounds i true) a' w'') a w

theorem wpAny_of_T : ∀ (fuel : Nat) (listed : Array Bool) (a : Act) (w : World), wpAnyT P md ops C Q fuel listed a w → wpAny P md ops Q fuel listed a w
  | 0, _, _, _, h => h
  | fuel + 1, _, _, _, h => ⟨h.1, fun i hi => wpOp_mono (fun a' w' h' => wpAny_of_T fuel _ a' w' (h'.2 w' (Below.refl _ _))) (h.2 i hi)⟩

theorem wpAnyT_first (hCg : ∀ w w', C w → Below w.heap.size w w' → C w') {i : Nat} {oi : Oper} {v : Value} (hi : ops[i]? = some oi) (hsel : ∀ (j : Nat) (o : Oper) cs b, ops[j]? = some o → o.op ≠ .select cs b)
    (hQ : ∀ c a d v w, Q (.panic c) (a.put d v) w → Q (.panic c) a w) :
    ∀ (fuel : Nat) (listed : Array Bool) (a : Act) (w : World),
      (∀ j oj, ops[j]? = some oj → j ≠ i → listed.getD j true = false → (∀ e ∈ oj.after, Region.binds md e = true → e.on ≠ i) → oi.apart ops oj = true) →
      i ∈ Region.ready md ops listed → SoftIn P ops C oi v a → C w →
      (∀ w', Below w.heap.size w w' → wpAnyT P md ops C Q fuel (listed.setIfInBounds i true) (a.put oi.dst v) w') → wpAnyT P md ops C Q (fuel + 1) listed a w := by
  intro fuel
  induction fuel with
  | zero =>
    intro listed a w _ hr hy hC H
    refine ⟨fun h => (by rw [h] at hr; cases hr), fun j hj => ?_⟩
    by_cases hji : j = i
    · subst hji
      exact hy.wpOp hi hC fun w' hw' => ⟨hCg _ _ hC hw', fun w'' hw'' => H w'' (hw'.trans (hw''.mono hw'.size))⟩
    · have := ready_mono hj hji
      rw [(H w (Below.refl _ _)).1] at this
      cases this
  | succ fuel ih =>
    intro listed a w hfree hr hy hC H
    refine ⟨fun h => (by rw [h] at hr; cases hr), fun j hj => ?_⟩
    by_cases hji : j = i
    · subst hji
      exact hy.wpOp hi hC fun w' hw' => ⟨hCg _ _ hC hw', fun w'' hw'' => H w'' (hw'.trans (hw''.mono hw'.size))⟩
    · have h1 := (H w (Below.refl _ _)).2 j (ready_mono hj hji)
      obtain ⟨hjun, oj, hoj, hall⟩ := mem_ready.1 hj
      have hnot : ∀ e ∈ oj.after, Region.binds md e = true → e.on ≠ i := fun e he hb heq => by
        have h1 := hall e he hb
        have h0 := (mem_ready.1 hr).1
        rw [heq] at h1
        rcases Nat.lt_or_ge i listed.size with h' | h'
        · simp [h'] at h0 h1; rw [h0] at h1; cases h1
        · simp [Array.getElem?_eq_none h'] at h1
      have h2 := wpOp_putSoft hoj (hfree j oj hoj hji hjun hnot) (fun cs b => hsel i oi cs b hi) (fun cs b => hsel j oj cs b hoj) hQ hy h1
      have hfree' : ∀ k ok, ops[k]? = some ok → k ≠ i → (listed.setIfInBounds j true).getD k true = false →
          (∀ e ∈ ok.after, Region.binds md e = true → e.on ≠ i) → oi.apart ops ok = true := fun k ok hk hki hun hno => by
        refine hfree k ok hk hki ?_ hno
        by_cases hjk : j = k
        · subst hjk; exact hjun
        · rw [getD_set_ne true hjk] at hun; exact hun
      refine wpOp_mono (fun a' w' h3 => ⟨h3.2.1, fun w'' hw'' => ih (listed.setIfInBounds j true) a' w'' hfree' (ready_mono hr (Ne.symm hji)) h3.1 (hCg _ _ h3.2.1 hw'') ?_⟩) h2
      intro w3 hw3
      rw [Array.setIfInBounds_comm _ _ hji]
      exact h3.2.2 w3 (hw''.trans (hw3.mono hw''.size))

/-- the front, in the order of the text -/
def wpSoft (P : Program) (ops : Array Oper) (C : World → Prop) (Qa : Act → Prop) : List Oper → Act → Prop
  | [], a => Qa a
  | o :: rest, a => ∃ v, SoftIn P ops C o v a ∧ wpSoft P ops C Qa rest (a.put o.dst v)

/-- the rest, in the one order in which it can come up -/
def wpRest (P : Program) (ops : Array Oper) (C : World → Prop) (Q : Exit → Act → World → Prop) : List Oper → Act → World → Prop
  | [], a, w => Q .normal a w
  | o :: rest, a, w => if Region.wanted o (yielded ops a.tmps) then o.wp P a w (fun a' w' => C w' ∧ ∀ w'', Below w'.heap.size w' w'' → wpRest P ops C Q rest a' w'') Q
    else ∀ w'', Below w.heap.size w w'' → wpRest P ops C Q rest (a.put o.dst undef) w''

theorem wpAnyT_rest (hCg : ∀ w w', C w → Below w.heap.size w w' → C w') : ∀ (l : List Oper) (k : Nat) (listed : Array Bool) (a : Act) (w : World), C w → (∀ j, l[j]? = ops[k + j]?) →
    Region.restB md ops l.length k listed = true → wpRest P ops C Q l a w → wpAnyT P md ops C Q l.length listed a w
  | [], _, _, _, _, _, _, hB, h => ⟨by simpa [Region.restB] using hB, h⟩
  | o :: l, k, listed, a, w, hC, hl, hB, h => by
    have h0 : ops[k]? = some o := by simpa using (hl 0).symm
    simp only [List.length_cons, Region.restB, Bool.and_eq_true, beq_iff_eq] at hB
    obtain ⟨hr, hB'⟩ := hB
    refine ⟨fun h => (by rw [hr] at h; cases h), fun i hi => ?_⟩
    rw [hr] at hi
    obtain rfl := List.mem_singleton.1 hi
    have hl' : ∀ j, l[j]? = ops[i + 1 + j]? := fun j => by have := hl (j + 1); simpa [Nat.add_assoc, Nat.add_comm 1 j] using this
    unfold wpOp
    rw [h0]
    unfold wpRest at h
    show if Region.wanted o (yielded ops a.tmps) = true then _ else _
    split
    · rename_i hw
      rw [if_pos hw] at h
      exact .inl (Oper.wp_mono (fun a' w' h' => ⟨h'.1, fun w'' hw'' => wpAnyT_rest hCg l (i + 1) _ a' w'' (hCg _ _ h'.1 hw'') hl' hB' (h'.2 w'' hw'')⟩) h)
    · rename_i hw
      rw [if_neg hw] at h
      exact ⟨hC, fun w'' hw'' => wpAnyT_rest hCg l (i + 1) _ _ w'' (hCg _ _ hC hw'') hl' hB' (h w'' hw'')⟩

theorem wpAnyT_soft (hCg : ∀ w w', C w → Below w.heap.size w w' → C w') (hs : Region.noSelect ops = true) (hQ : ∀ c a d v w, Q (.panic c) (a.put d v) w → Q (.panic c) a w) (r : Nat) :
    ∀ (l : List Oper) (k : Nat) (listed : Array Bool) (a : Act) (w : World), C w → (∀ j, j < l.length → l[j]? = ops[k + j]?) → Region.lexFront md ops l.length k listed = true →
    wpSoft P ops C (fun a' => ∀ w', Below w.heap.size w w' → wpAnyT P md ops C Q r ((List.range' k l.length).foldl (fun b i => b.setIfInBounds i true) listed) a' w') l a → wpAnyT P md ops C Q (l.length + r) listed a w
  | [], _, _, _, w, _, _, _, h => by simpa using h w (Below.refl _ _)
  | o :: l, k, listed, a, w, hC, hl, hL, h => by
    have h0 : ops[k]? = some o := by simpa using (hl 0 (by simp)).symm
    simp only [List.length_cons, Region.lexFront, Bool.and_eq_true] at hL
    obtain ⟨⟨hr, hf⟩, hL'⟩ := hL
    have hr' : k ∈ Region.ready md ops listed := by simpa using hr
    obtain ⟨v, hy, hK⟩ := h
    rw [List.length_cons, Nat.add_right_comm]
    refine wpAnyT_first hCg h0 (Region.noSelect_spec hs) hQ (l.length + r) listed a w (Region.free_spec h0 hf) hr' hy hC fun w' hw' => ?_
    refine wpAnyT_soft hCg hs hQ r l (k + 1) _ _ w' (hCg _ _ hC hw') (fun j hj => by have := hl (j + 1) (by simpa using hj); simpa [Nat.add_assoc, Nat.add_comm 1 j] using this) hL' ?_
    refine mono _ _ ?_ hK
    intro a' ha' w'' hw''
    exact ha' w'' (hw'.trans (hw''.mono hw'.size))
where
  mono (l : List Oper) (a : Act) {Q1 Q2 : Act → Prop} (hq : ∀ a, Q1 a → Q2 a) (h : wpSoft P ops C Q1 l a) : wpSoft P ops C Q2 l a := by
    induction l generalizing a with
    | nil => exact hq _ h
    | cons o l ih => obtain ⟨v, hy, hK⟩ := h; exact ⟨v, hy, ih _ hK⟩

def Region.floatB (md : Region.Mode) (ops : Array Oper) (m : Nat) : Bool :=
  m ≤ ops.size && Region.noSelect ops && Region.lexFront md ops m 0 (Array.replicate ops.size false) &&
  Region.restB md ops (ops.size - m) m ((List.range' 0 m).foldl (fun b i => b.setIfInBounds i true) (Array.replicate ops.size false))

theorem wp_region_float {id : Nat} {a : Act} {W : World} (m B : Nat) {l : List Oper} (hm : P.follows .mixedOrders = true) (hB : Region.floatB .any l.toArray m = true) (hBW : B ≤ W.heap.size)
    (hQ : ∀ c a d v w, Q (.panic c) (a.put d v) w → Q (.panic c) a w)
    (h : wpSoft P l.toArray (Below B W) (fun a' => ∀ w', Below W.heap.size W w' → wpRest P l.toArray (Below B W) Q (l.drop m) a' w') (l.take m) a) : (Code.region id l.toArray true).wp P Q a W := by
  simp only [Region.floatB, Bool.and_eq_true, decide_eq_true_eq] at hB
  obtain ⟨⟨⟨hml, hs⟩, hL⟩, hR⟩ := hB
  have hml' : m ≤ l.length := by simpa using hml
  have hCg : ∀ w w', Below B W w → Below w.heap.size w w' → Below B W w' := fun w w' h1 h2 => h1.trans (h2.mono (Nat.le_trans hBW h1.size))
  refine wp_region_any hm (wpAny_of_T (C := Below B W) _ _ _ _ ?_)
  have hsz : l.toArray.size = (l.take m).length + (l.drop m).length := by simp; omega
  have hlen : (l.take m).length = m := by simp; omega
  have hlen2 : l.toArray.size - m = (l.drop m).length := by simp
  rw [hlen2] at hR
  have key := wpAnyT_soft (P := P) (Q := Q) (C := Below B W) (md := .any) (ops := l.toArray) hCg hs hQ (l.drop m).length (l.take m) 0 (Array.replicate l.toArray.size false) a { W with drawn := W.drawn + 1 } ((Below.refl B W).drew)
    (fun j hj => by
      rw [hlen] at hj
      simp [List.getElem?_take, hj])
    (by rw [hlen]; exact hL)
    (wpAnyT_soft.mono _ _ (fun a' ha' w' hw' => by
      have hw'' : Below W.heap.size W w' := (Below.refl W.heap.size W).drew.trans hw'
      rw [hlen]
      exact wpAnyT_rest hCg (l.drop m) m _ a' w' (hw''.mono hBW) (fun j => by simp [List.getElem?_drop]) hR (ha' w' hw'')) h)
  rw [← hsz] at key
  exact key
end
attribute [go_sem] Oper.softAt Oper.softUpon
theorem wpRest_step {P : Program} {ops : Array Oper} {C : World → Prop} {Q : Exit → Act → World → Prop} {o : Oper} {rest : List Oper} {a : Act} {w : World} (hw : Region.wanted o (yielded ops a.tmps) = true)
    (h : ∀ K : Act → World → Prop, (∀ a w, C w → (∀ w'', Below w.heap.size w w'' → wpRest P ops C Q rest a w'') → K a w) → o.wp P a w K Q) : wpRest P ops C Q (o :: rest) a w := by
  unfold wpRest
  rw [if_pos hw]
  exact h _ fun _ _ h1 h2 => ⟨h1, h2⟩
theorem wpSoft_skip {P : Program} {ops : Array Oper} {C : World → Prop} {Qa : Act → Prop} {o : Oper} {rest : List Oper} {a : Act} (hw : Region.wanted o (yielded ops a.tmps) = false)
    (h : wpSoft P ops C Qa rest (a.put o.dst undef)) : wpSoft P ops C Qa (o :: rest) a := ⟨undef, .inr ⟨hw, rfl⟩, h⟩
theorem wpSoft_step {P : Program} {ops : Array Oper} {B : Nat} {W : World} {Qa : Act → Prop} {o : Oper} {rest : List Oper} {a : Act} (v : Value) (hw : Region.wanted o (yielded ops a.tmps) = true)
    (hv : ∀ w, Below B W w → (∀ b o, b < B → w.cell? ⟨b, o, none⟩ = W.cell? ⟨b, o, none⟩) → o.softAt P a w v)
    (h : wpSoft P ops (Below B W) Qa rest (a.put o.dst v)) : wpSoft P ops (Below B W) Qa (o :: rest) a := ⟨v, .inl ⟨hw, fun w hb => hv w hb (fun b o h => hb.cell (p := ⟨b, o, none⟩) h)⟩, h⟩
theorem Calls.soft_same {P : Program} {f : FuncId} {args : Array Value} {w : World} {v : Value}
    (h : Calls P f args w fun e w' => e = .returned v ∧ w = w') : Calls P f args w fun e w'' => e = .returned v ∧ Below w.heap.size w w'' :=
  h.mono fun _ _ ⟨he, hw⟩ => ⟨he, hw ▸ Below.refl _ _⟩
theorem bcellB {B : Nat} {W w1 : World} (hb : Below B W w1) : (∀ b o, b < B → w1.cell? ⟨b, o, none⟩ = W.cell? ⟨b, o, none⟩) ∧ (∀ b o, b < B → w1.frozen? ⟨b, o, none⟩ = W.frozen? ⟨b, o, none⟩) :=
  ⟨fun b o h => hb.cell (p := ⟨b, o, none⟩) h, fun b o h => hb.frozen (p := ⟨b, o, none⟩) h⟩
end Go
/- A struct stored whole into a block of its own, and loaded whole out of it, whatever its number of cells. -/
namespace Go
open Go.RowKit
theorem setCells_grown (b : Nat) : ∀ (vs : List Value) (o : Nat) (w : World), w.grownBy (w.setCells b o vs) (some b) ∧ (w.setCells b o vs).heap.size = w.heap.size ∧
    ∀ c t f, w.heap[b]? = some (.cells c t f) → ∃ c' : Array Value, (w.setCells b o vs).heap[b]? = some (.cells c' t f) ∧ c'.size = c.size
  | [], o, w => ⟨World.grownBy.refl w _, rfl, fun c t f h => ⟨c, h, rfl⟩⟩
  | v :: r, o, w => by
    obtain ⟨h1, h2, h3⟩ := setCells_grown b r (o + 1) (w.setCell ⟨b, o, none⟩ v)
    have hsz : (w.setCell ⟨b, o, none⟩ v).heap.size = w.heap.size := by simp [World.setCell]
    have hg : w.grownBy (w.setCell ⟨b, o, none⟩ v) (some b) := ⟨rfl, rfl, rfl, by rw [hsz]; exact Nat.le_refl _, fun k _ hk => Below.heap_setCell w ⟨b, o, none⟩ v k (fun e => hk (by rw [e]))⟩
    refine ⟨⟨h1.os.trans hg.os, h1.tape.trans hg.tape, h1.output.trans hg.output, Nat.le_trans hg.size h1.size, fun k hk hne => (h1.block k (by rw [hsz]; exact hk) hne).trans (hg.block k hk hne)⟩, h2.trans hsz, fun c t f hc => ?_⟩
    have : (w.setCell ⟨b, o, none⟩ v).heap[b]? = some (.cells (c.setIfInBounds o v) t f) := by
      simp [World.setCell, Array.getElem?_modify, hc]
    obtain ⟨c', hc', hs'⟩ := h3 _ _ _ this
    exact ⟨c', hc', by rw [hs']; simp⟩
theorem setCells_blk {w : World} {g : Nat} {cs : Array Value} {old : Array Value} {t : TypeId} (hh : w.heap[g]? = some (.cells old t (0, 0))) (hsz : old.size = cs.size) :
    (w.setCells g 0 cs.toList).heap[g]? = some (.cells cs t (0, 0)) := by
  obtain ⟨c', hc', hs'⟩ := (setCells_grown g cs.toList 0 w).2.2 _ _ _ hh
  rw [hc']
  have ht : w.there g 0 cs.toList.length := fun j hj => by
    have hj' : j < old.size := by rw [hsz]; simpa using hj
    constructor
    · simp [World.cell?, hh, hj']
    · simp [World.frozen?, hh]
  have hr := World.rangeAt_setCells_same w g 0 cs.toList ht
  have : c' = cs := by
    apply Array.ext_getElem?
    intro j
    rcases Nat.lt_or_ge j cs.size with hj | hj
    · have := hr j cs[j] (by simp [hj])
      rw [Nat.zero_add] at this
      simp only [World.cell?, hc'] at this
      simpa [hj] using this
    · rw [Array.getElem?_eq_none hj, Array.getElem?_eq_none (by rw [hs', hsz]; exact hj)]
  rw [this]
section
variable {P : Program}
theorem wp_store_blk {op : Oper} {a : Act} {w : World} {K : Act → World → Prop} {Q : Exit → Act → World → Prop} (ty : TypeId) (x y : Operand) (ho : op.op = .store ty x y)
    (g : Nat) (cs : Array Value) (hx : a.eval x = .pointer (some ⟨g, 0, none⟩)) (hy : a.eval y = .agg cs) {old : Array Value} {t : TypeId} (hh : w.heap[g]? = some (.cells old t (0, 0)))
    (hsz : old.size = cs.size) (hi : (P.info? ty).map (·.size) = some cs.size) (h1 : cs.all (·.oneCell') = true)
    (h : ∀ w', w'.heap[g]? = some (.cells cs t (0, 0)) → w.grownBy w' (some g) → w'.heap.size = w.heap.size → K (a.put op.dst undef) w') : op.wp P a w K Q :=
  wp_store_mid ty x y ho g 0 cs hx hy (fun j hj => by
    have hj' : j < old.size := by rw [hsz]; exact hj
    constructor
    · simp [World.cell?, hh, hj']
    · simp [World.frozen?, hh]) hi h1 (h _ (setCells_blk hh hsz) (setCells_grown g _ 0 w).1 (setCells_grown g _ 0 w).2.1)
theorem wpList_store_blk {ops : Array Oper} {rest : List Oper} {op : Oper} {a : Act} {w : World} {Q : Exit → Act → World → Prop} (hgd : op.guard = none) (ty : TypeId) (x y : Operand) (ho : op.op = .store ty x y)
    (g : Nat) (cs : Array Value) (hx : a.eval x = .pointer (some ⟨g, 0, none⟩)) (hy : a.eval y = .agg cs) {old : Array Value} {t : TypeId} (hh : w.heap[g]? = some (.cells old t (0, 0)))
    (hsz : old.size = cs.size) (hi : (P.info? ty).map (·.size) = some cs.size) (h1 : cs.all (·.oneCell') = true)
    (h : ∀ w', w'.heap[g]? = some (.cells cs t (0, 0)) → w.grownBy w' (some g) → w'.heap.size = w.heap.size → wpList P ops Q rest (a.put op.dst undef) w') : wpList P ops Q (op :: rest) a w :=
  wpList_plain hgd fun _ hK => wp_store_blk ty x y ho g cs hx hy hh hsz hi h1 fun w' h2 h3 h4 => hK _ _ (h w' h2 h3 h4)
theorem rangeAt_blk {w : World} {g : Nat} {cs : Array Value} {t : TypeId} {f : Nat × Nat} (hh : w.heap[g]? = some (.cells cs t f)) : w.rangeAt g 0 cs.toList := fun j v hv => by
  simp only [World.cell?, hh, Nat.zero_add]
  simpa using hv
/-- a struct result in a cell of a block -/
theorem run_loadVar_blk {w : World} {g : Nat} {cs : Array Value} {t : TypeId} {f : Nat × Nat} (hh : w.heap[g]? = some (.cells cs t f)) (ty : TypeId) (d : TypeDesc) (hu : P.underlying ty = some d) (hd : d.isRow = true) (hi : (P.info? ty).map (·.size) = some cs.size) :
    (loadVar ty ⟨g, 0, none⟩).run P w = .ok (.agg cs) w := by
  have := run_loadVar_mid (P := P) w g 0 ty cs.toList d (rangeAt_blk hh) hu hd (by simpa using hi)
  simpa using this
theorem results_blk {fn : Func} {a : Tmp} {T : TypeId} (h : fn.results = #[.cell a T]) {tmps : Array Value} {w : World} {g : Nat} {cs : Array Value} {t : TypeId} {f : Nat × Nat} (ha : tmps.getD a undef = .pointer (some ⟨g, 0, none⟩)) (hh : w.heap[g]? = some (.cells cs t f))
    (d : TypeDesc) (hu : P.underlying T = some d) (hd : d.isRow = true) (hi : (P.info? T).map (·.size) = some cs.size) : (results fn tmps).run P w = .ok (.agg cs) w := by
  have hl := run_loadVar_blk (P := P) hh T d hu hd hi
  have ha' : tmps[a]?.getD undef = .pointer (some ⟨g, 0, none⟩) := by simpa using ha
  simp [results, h, ha', asAddr, hl]
theorem results_blk_tmp {fn : Func} {a u : Tmp} {T : TypeId} (h : fn.results = #[.cell a T, .tmp u]) {tmps : Array Value} {w : World} {g : Nat} {cs : Array Value} {t : TypeId} {f : Nat × Nat} (ha : tmps.getD a undef = .pointer (some ⟨g, 0, none⟩)) (hh : w.heap[g]? = some (.cells cs t f))
    (d : TypeDesc) (hu : P.underlying T = some d) (hd : d.isRow = true) (hi : (P.info? T).map (·.size) = some cs.size) : (results fn tmps).run P w = .ok (.tuple #[.agg cs, tmps.getD u undef]) w := by
  have hl := run_loadVar_blk (P := P) hh T d hu hd hi
  have ha' : tmps[a]?.getD undef = .pointer (some ⟨g, 0, none⟩) := by simpa using ha
  simp [results, h, ha', asAddr, hl]
end
end Go
namespace Go.Proofs.YtndhjkammoeikaaGreatDoor
open Go.RowKit
set_option maxHeartbeats 400000
set_option maxRecDepth 20000

theorem c87 (v : Ves) (u : Wat) (A : Option Addr) (cap : Nat) (l : List Sgt) (w : World) (hlen : l.length ≤ 1000000) (H : RdL w 3 Sgt.enc A l) :
    Calls Tryz.prog 87 #[.agg #[.int .i64 v.sx, .int .i64 v.sy, .int .i64 v.dx, .int .i64 v.dy, .int .i64 v.n], .agg #[.int .i64 u.ring, .int .i64 u.speed, .int .i64 u.loss, .int .i64 u.clear, .int .i64 u.soft], .slice A l.length cap] w fun en w' => en = .returned (.tuple #[.agg #[.int .i64 u.ring, .int .i64 u.speed, .int .i64 u.loss, .int .i64 u.clear, .int .i64 u.soft, .int .i64 v.sx, .int .i64 v.sy, .int .i64 v.dx, .int .i64 v.dy, .int .i64 v.n, .slice A l.length cap], .int .i64 (Mo.all v u l)]) ∧ Below w.heap.size w w' := by
  obtain ⟨W, hW⟩ : ∃ W, W = ((w.alloc (Obj.cells #[.int .i64 v.sx, .int .i64 v.sy, .int .i64 v.dx, .int .i64 v.dy, .int .i64 v.n] 35)).alloc (Obj.cells #[.int .i64 u.ring, .int .i64 u.speed, .int .i64 u.loss, .int .i64 u.clear, .int .i64 u.soft] 36)).alloc (Obj.cells #[.int .i64 0, .int .i64 0, .int .i64 0, .int .i64 0, .int .i64 0, .int .i64 0, .int .i64 0, .int .i64 0, .int .i64 0, .int .i64 0, .slice none 0 0] 162) := ⟨_, rfl⟩
  have hT0 : W.heap[w.heap.size]? = some (.cells #[.int .i64 v.sx, .int .i64 v.sy, .int .i64 v.dx, .int .i64 v.dy, .int .i64 v.n] 35 (0, 0)) := by rw [hW]; exact heap_old (by simp <;> omega) (heap_old (by simp <;> omega) (heap_new (by simp)))
  have h0_0 : W.cell? ⟨w.heap.size, 0, none⟩ = some (.int .i64 v.sx) := cell_at hT0 rfl
  have h0_1 : W.cell? ⟨w.heap.size, 1, none⟩ = some (.int .i64 v.sy) := cell_at hT0 rfl
  have h0_2 : W.cell? ⟨w.heap.size, 2, none⟩ = some (.int .i64 v.dx) := cell_at hT0 rfl
  have h0_3 : W.cell? ⟨w.heap.size, 3, none⟩ = some (.int .i64 v.dy) := cell_at hT0 rfl
  have h0_4 : W.cell? ⟨w.heap.size, 4, none⟩ = some (.int .i64 v.n) := cell_at hT0 rfl
  have hT1 : W.heap[w.heap.size + 1]? = some (.cells #[.int .i64 u.ring, .int .i64 u.speed, .int .i64 u.loss, .int .i64 u.clear, .int .i64 u.soft] 36 (0, 0)) := by rw [hW]; exact heap_old (by simp <;> omega) (heap_new (by simp))
  have h1_0 : W.cell? ⟨w.heap.size + 1, 0, none⟩ = some (.int .i64 u.ring) := cell_at hT1 rfl
  have h1_1 : W.cell? ⟨w.heap.size + 1, 1, none⟩ = some (.int .i64 u.speed) := cell_at hT1 rfl
  have h1_2 : W.cell? ⟨w.heap.size + 1, 2, none⟩ = some (.int .i64 u.loss) := cell_at hT1 rfl
  have h1_3 : W.cell? ⟨w.heap.size + 1, 3, none⟩ = some (.int .i64 u.clear) := cell_at hT1 rfl
  have h1_4 : W.cell? ⟨w.heap.size + 1, 4, none⟩ = some (.int .i64 u.soft) := cell_at hT1 rfl
  have hT2 : W.heap[w.heap.size + 1 + 1]? = some (.cells #[.int .i64 0, .int .i64 0, .int .i64 0, .int .i64 0, .int .i64 0, .int .i64 0, .int .i64 0, .int .i64 0, .int .i64 0, .int .i64 0, .slice none 0 0] 162 (0, 0)) := by rw [hW]; exact heap_new (by simp)
  have h2_0 : W.cell? ⟨w.heap.size + 1 + 1, 0, none⟩ = some (.int .i64 0) := cell_at hT2 rfl
  have h2_1 : W.cell? ⟨w.heap.size + 1 + 1, 1, none⟩ = some (.int .i64 0) := cell_at hT2 rfl
  have h2_2 : W.cell? ⟨w.heap.size + 1 + 1, 2, none⟩ = some (.int .i64 0) := cell_at hT2 rfl
  have h2_3 : W.cell? ⟨w.heap.size + 1 + 1, 3, none⟩ = some (.int .i64 0) := cell_at hT2 rfl
  have h2_4 : W.cell? ⟨w.heap.size + 1 + 1, 4, none⟩ = some (.int .i64 0) := cell_at hT2 rfl
  have h2_5 : W.cell? ⟨w.heap.size + 1 + 1, 5, none⟩ = some (.int .i64 0) := cell_at hT2 rfl
  have h2_6 : W.cell? ⟨w.heap.size + 1 + 1, 6, none⟩ = some (.int .i64 0) := cell_at hT2 rfl
  have h2_7 : W.cell? ⟨w.heap.size + 1 + 1, 7, none⟩ = some (.int .i64 0) := cell_at hT2 rfl
  have h2_8 : W.cell? ⟨w.heap.size + 1 + 1, 8, none⟩ = some (.int .i64 0) := cell_at hT2 rfl
  have h2_9 : W.cell? ⟨w.heap.size + 1 + 1, 9, none⟩ = some (.int .i64 0) := cell_at hT2 rfl
  have h2_10 : W.cell? ⟨w.heap.size + 1 + 1, 10, none⟩ = some (.slice none 0 0) := cell_at hT2 rfl
  have hs : w.heap.size + 3 = W.heap.size := by rw [hW]; simp
  have hB : Below w.heap.size w W := by rw [hW]; exact ((((Below.refl _ _).alloc (by simp <;> omega) _).alloc (by simp <;> omega) _).alloc (by simp <;> omega) _)
  obtain ⟨n, hn⟩ : ∃ n, n = l.length := ⟨_, rfl⟩
  have Hn := Lib.hid hn
  have HC : ∀ w1, Below (w.heap.size + 2) W w1 → Hid (Calls Tryz.prog 28 #[.slice A n cap] w1 fun en w' => en = .returned (.int .i64 (Mo.sightings l)) ∧ Below w1.heap.size w1 w') := fun w1 h1 => by
    rw [Hn.out]; exact Lib.hid (c28 A cap l _ hlen (H.below' hB h1 (by omega)))
  clear H
  rw [← hn]
  clear hn
  have hs2 : w.heap.size + 2 < W.heap.size := by omega
  have HS := Lib.hid hs
  clear hs
  go_enter Tryz.func87, Tryz.ntmps87
  go_wp2
  rw [← hW]
  clear hW
  clear h2_0
  clear h2_1
  clear h2_2
  clear h2_3
  clear h2_4
  clear h2_5
  clear h2_6
  clear h2_7
  clear h2_8
  clear h2_9
  clear h2_10
  refine wp_region_float 10 (w.heap.size + 2) (by kernel_rfl) (by kernel_rfl) (by omega) (fun _ _ d _ _ h => by cases d <;> exact h) ?_
  simp only [List.take_succ_cons, List.take_zero, List.drop_succ_cons, List.drop_zero]
  repeat (first | (refine wpSoft_skip (by rfl) ?_; simp only [Act.put, List.setIfInBounds_toArray, List.set_cons_zero, List.set_cons_succ]) | (refine wpSoft_step ?_ (by rfl) ?_ ?_; rotate_left; (intro wq hq hcq; go_simp; first | exact rfl | exact ⟨rfl, rfl⟩ | (exact c24 _ _ _ _ _ _) | (exact c26 _ _ _ _ _ _) | (exact (HC _ hq).out)); simp only [Act.put, List.setIfInBounds_toArray, List.set_cons_zero, List.set_cons_succ]))
  intro w1 hb1
  clear HC
  have hT4 := (hb1.block (w.heap.size + 1 + 1) (by omega)).trans hT2
  have hz4 : w.heap.size + 2 < w1.heap.size := Nat.lt_of_lt_of_le hs2 hb1.size
  refine wpRest_step (by rfl) (fun K hK => ?_)
  go_simp
  refine hK _ _ ((hb1.mono (by omega)).alloc (by omega) _) ?_
  clear hK K
  intro w2 hb2
  have hb12 := ((Below.refl w1.heap.size w1).alloc (Nat.le_refl _) (Obj.cells #[.int .i64 (Mo.vessel v.sx v.sy v.dx v.dy v.n), .int .i64 (Mo.watch u.ring u.speed u.loss u.clear u.soft), .int .i64 (Mo.sightings l)] 32)).call hb2 rfl
  have hR := (RdS.of_new (w := w1) (g := w1.heap.size) (size := 1) (n := 3) (cs := encI [Mo.ves v, Mo.wat u, Mo.sightings l]) (t := 32) (f := (0, 0)) rfl rfl).below hb2
  clear hb2
  refine wpRest_step (by rfl) (fun K hK => ?_)
  go_simp
  refine (c94 _ 3 _ [Mo.ves v, Mo.wat u, Mo.sightings l] _ rfl (by omega) hR).mono ?_
  rintro e w3 ⟨rfl, rfl⟩
  have hb2 := hb1.trans (hb12.mono hb1.size)
  refine hK _ _ (hb2.mono (by omega)) ?_
  clear hK K hb12 hR hT4 hz4 hb1
  intro w3 hb3
  have hb4 := hb2.trans (hb3.mono hb2.size)
  clear hb2 hb3
  have hT4 := (hb4.block (w.heap.size + 1 + 1) (by omega)).trans hT2
  refine wpRest_step (by rfl) (fun K hK => ?_)
  refine wp_store_blk 162 (.tmp 6) (.tmp 11) rfl (w.heap.size + 1 + 1) _ rfl rfl hT4 rfl (by kernel_rfl) (by simp [Value.oneCell']) ?_
  intro w4 hT5 hg5 hz5
  have hC4 : Below (w.heap.size + 2) W w4 := (hb4.mono (by omega)).grown hg5 (by have := hb4.size; omega) (by intro k hk; cases hk; omega)
  refine hK _ _ hC4 ?_
  clear hK K
  intro w5 hb5
  have hC5 : Below (w.heap.size + 2) W w5 := hC4.trans (hb5.mono (by have := hb4.size; omega))
  have hB5 : Below w.heap.size w w5 := hB.trans (hC5.mono (by omega))
  have hT6 := (hb5.block (w.heap.size + 1 + 1) (by have := hb4.size; omega)).trans hT5
  clear hb5 hT5 hg5 hz5 hb4 hT4
  refine wpRest_step (by rfl) (fun K hK => ?_)
  go_simp
  refine hK _ _ hC5 ?_
  clear hK K
  intro w6 hb6
  have hT7 := (hb6.block (w.heap.size + 1 + 1) (by have := hC5.size; omega)).trans hT6
  have hB6 : Below w.heap.size w w6 := hB5.trans (hb6.mono hB5.size)
  clear hb6 hT6 hC5 hC4 hB5
  show Exit.then _ _ _ _ _
  simp only [Exit.then]
  go_wp2
  exact bodyPost_ret (results_blk_tmp rfl rfl hT7 _ Tryz.underlying162 rfl (by kernel_rfl)) rfl ⟨rfl, hB6⟩

end Go.Proofs.YtndhjkammoeikaaGreatDoor
namespace Go.Proofs.YtndhjkammoeikaaGreatDoor
open Go.RowKit
/-- what is known of a world w1 that has grown out of W, and of w1 with one block more -/
theorem bgrow {W w1 : World} (hb : Below W.heap.size W w1) : (∀ b o, b < W.heap.size → w1.cell? ⟨b, o, none⟩ = W.cell? ⟨b, o, none⟩) ∧ (∀ b o, b < W.heap.size → w1.frozen? ⟨b, o, none⟩ = W.frozen? ⟨b, o, none⟩) ∧
    (∀ ob b o, b < w1.heap.size → (w1.alloc ob).cell? ⟨b, o, none⟩ = w1.cell? ⟨b, o, none⟩) ∧ (∀ ob b o, b < w1.heap.size → (w1.alloc ob).frozen? ⟨b, o, none⟩ = w1.frozen? ⟨b, o, none⟩) :=
  ⟨(bcell hb).1, (bcell hb).2, fun ob b o h => World.cell?_of_block (w := w1) (Below.heap_alloc w1 ob b h), fun ob b o h => World.frozen?_of_block (w := w1) (Below.heap_alloc w1 ob b h)⟩
end Go.Proofs.YtndhjkammoeikaaGreatDoor
namespace Go.Proofs.YtndhjkammoeikaaGreatDoor
structure VOk (v : Ves) : Prop where
  sx : -100000 ≤ v.sx ∧ v.sx ≤ 100000
  sy : -100000 ≤ v.sy ∧ v.sy ≤ 100000
  dx : -1000 ≤ v.dx ∧ v.dx ≤ 1000
  dy : -1000 ≤ v.dy ∧ v.dy ≤ 1000
  n : 1 ≤ v.n ∧ v.n ≤ 4096
structure WOk (u : Wat) : Prop where
  ring : 0 ≤ u.ring ∧ u.ring ≤ 10000
  speed : 0 ≤ u.speed ∧ u.speed ≤ 1000
  loss : 0 ≤ u.loss ∧ u.loss ≤ 1000
  clear : 0 ≤ u.clear ∧ u.clear ≤ 1000
  soft : 0 ≤ u.soft ∧ u.soft ≤ 1000
structure SOk (s : Sgt) : Prop where
  t : 0 ≤ s.t ∧ s.t ≤ 100000
  x : -100000 ≤ s.x ∧ s.x ≤ 100000
  y : -100000 ≤ s.y ∧ s.y ≤ 100000
namespace Mo
theorem first_zero {l : List Int} (h : first l = 0) : ∀ x ∈ l, x = 0 := by
  induction l with
  | nil => intro x hx; cases hx
  | cons a l ih =>
    intro x hx
    unfold first at h
    by_cases ha : a ≠ 0
    · rw [if_pos ha] at h; exact absurd h ha
    · rw [if_neg ha] at h
      rcases List.mem_cons.1 hx with rfl | hx
      · simpa using ha
      · exact ih h x hx
theorem range_zero {n lo hi : Int} (h : range n lo hi = 0) : lo ≤ n ∧ n ≤ hi := by
  unfold range at h
  split at h
  · cases h
  · omega
theorem point_zero {x y m : Int} (h : point x y m = 0) : (-m ≤ x ∧ x ≤ m) ∧ (-m ≤ y ∧ y ≤ m) := by
  have := first_zero h
  exact ⟨range_zero (this _ (by simp)), range_zero (this _ (by simp))⟩
theorem when_zero {c : Bool} {e : Int} (he : e ≠ 0) (h : when c e = 0) : c = false := by
  cases c
  · rfl
  · exact absurd h he
theorem ves_ok {v : Ves} (h : ves v = 0) : VOk v := by
  have := first_zero h
  have h1 := point_zero (this _ (by simp) : point v.sx v.sy 100000 = 0)
  have h2 := point_zero (this _ (by simp) : point v.dx v.dy 1000 = 0)
  have h3 := range_zero (this _ (by simp) : range v.n 1 4096 = 0)
  exact ⟨h1.1, h1.2, h2.1, h2.2, h3⟩
theorem wat_ok {u : Wat} (h : wat u = 0) : WOk u := by
  have := first_zero h
  exact ⟨range_zero (this _ (by simp)), range_zero (this _ (by simp)), range_zero (this _ (by simp)), range_zero (this _ (by simp)), range_zero (this _ (by simp))⟩
theorem each_zero {n most : Nat} {f : Nat → Int} (h : each n most f = 0) : n ≤ most ∧ ∀ k, k < n → f k = 0 := by
  unfold each at h
  split at h
  · cases h
  · exact ⟨by omega, fun k hk => first_zero h _ (List.mem_map.2 ⟨k, List.mem_range.2 hk, rfl⟩)⟩
theorem sightings_ok {l : List Sgt} (h : sightings l = 0) : l.length ≤ 64 ∧ ∀ s ∈ l, SOk s := by
  obtain ⟨h1, h2⟩ := each_zero h
  refine ⟨h1, fun s hs => ?_⟩
  obtain ⟨k, hk, rfl⟩ := List.mem_iff_getElem.1 hs
  have h3 := h2 k hk
  unfold sgt1 at h3
  rw [List.getElem?_eq_getElem hk] at h3
  have h4 := first_zero h3
  have h5 := point_zero (h4 (point l[k].x l[k].y 100000) (by simp))
  exact ⟨range_zero (h4 (range l[k].t 0 100000) (by simp)), h5.1, h5.2⟩
theorem all_ok {v : Ves} {u : Wat} {l : List Sgt} (h : all v u l = 0) : VOk v ∧ WOk u ∧ l.length ≤ 64 ∧ ∀ s ∈ l, SOk s := by
  have := first_zero h
  have h3 := sightings_ok (this _ (by simp) : sightings l = 0)
  exact ⟨ves_ok (this _ (by simp)), wat_ok (this _ (by simp)), h3.1, h3.2⟩
/-- may the animal of a sighting be inside at tick k -/
def near (v : Ves) (u : Wat) (s : Sgt) (k : Int) : Bool :=
  if k - s.t < 0 ∨ u.loss < k - s.t then false else
  decide ((v.sx + k * v.dx - s.x) * (v.sx + k * v.dx - s.x) + (v.sy + k * v.dy - s.y) * (v.sy + k * v.dy - s.y) ≤ (u.ring + u.speed * (k - s.t)) * (u.ring + u.speed * (k - s.t)))
def inside (v : Ves) (u : Wat) (l : List Sgt) (k : Int) : Bool := l.any fun s => near v u s k
theorem mul_bd {a b A B : Int} (ha : -A ≤ a ∧ a ≤ A) (hb : -B ≤ b ∧ b ≤ B) : -(A * B) ≤ a * b ∧ a * b ≤ A * B := by
  have h1 : a.natAbs ≤ A.natAbs := by omega
  have h2 : b.natAbs ≤ B.natAbs := by omega
  have h3 : (a * b).natAbs ≤ (A * B).natAbs := by
    rw [Int.natAbs_mul, Int.natAbs_mul]; exact Nat.mul_le_mul h1 h2
  have h4 : 0 ≤ A * B := Int.mul_nonneg (by omega) (by omega)
  omega
theorem sq_nn (a : Int) : 0 ≤ a * a := by
  rcases Int.le_total 0 a with h | h
  · exact Int.mul_nonneg h h
  · exact Int.mul_nonneg_of_nonpos_of_nonpos h h
end Mo
end Go.Proofs.YtndhjkammoeikaaGreatDoor
namespace Go.Proofs.YtndhjkammoeikaaGreatDoor
open Go.RowKit
set_option maxHeartbeats 400000
set_option maxRecDepth 20000

theorem c175 (v : Ves) (u : Wat) (A : Option Addr) (n cap : Nat) (k : Int) (w : World) (hv : VOk v) (hk : 0 ≤ k ∧ k ≤ 4096) :
    Calls Tryz.prog 175 #[.agg #[.int .i64 u.ring, .int .i64 u.speed, .int .i64 u.loss, .int .i64 u.clear, .int .i64 u.soft, .int .i64 v.sx, .int .i64 v.sy, .int .i64 v.dx, .int .i64 v.dy, .int .i64 v.n, .slice A n cap], .int .i64 k] w fun en w' => en = .returned (.agg #[.int .i64 (v.sx + k * v.dx), .int .i64 (v.sy + k * v.dy)]) ∧ Below w.heap.size w w' := by
  have h1 := Mo.mul_bd (a := k) (b := v.dx) (A := 4096) (B := 1000) (by omega) hv.dx
  have h2 := Mo.mul_bd (a := k) (b := v.dy) (A := 4096) (B := 1000) (by omega) hv.dy
  have h3 := hv.sx
  have h4 := hv.sy
  have h5 := hv.dx
  have h6 := hv.dy
  go_enter Tryz.func175, Tryz.ntmps175
  go_wp2
  exact bodyPost_ret (results_blk rfl rfl (heap_old (by simp) (heap_new (by simp))) _ Tryz.underlying23 rfl (by kernel_rfl)) rfl ⟨rfl, (((Below.refl _ _).alloc (by simp) _).alloc (by simp) _).alloc (by simp <;> omega) _⟩
theorem c147 (v : Ves) (u : Wat) (A : Option Addr) (n cap : Nat) (s : Sgt) (k : Int) (w : World) (hv : VOk v) (hu : WOk u) (hs : SOk s) (hk : 0 ≤ k ∧ k ≤ 4096) :
    Calls Tryz.prog 147 #[.agg #[.int .i64 u.ring, .int .i64 u.speed, .int .i64 u.loss, .int .i64 u.clear, .int .i64 u.soft, .int .i64 v.sx, .int .i64 v.sy, .int .i64 v.dx, .int .i64 v.dy, .int .i64 v.n, .slice A n cap], .agg #[.int .i64 s.t, .int .i64 s.x, .int .i64 s.y], .int .i64 k] w fun en w' => en = .returned (.bool (Mo.near v u s k)) ∧ Below w.heap.size w w' := by
  have h1 := Mo.mul_bd (a := k) (b := v.dx) (A := 4096) (B := 1000) (by omega) hv.dx
  have h2 := Mo.mul_bd (a := k) (b := v.dy) (A := 4096) (B := 1000) (by omega) hv.dy
  have h3 := hv.sx
  have h4 := hv.sy
  have h7 := hu.loss
  have h8 := hu.ring
  have h9 := hu.speed
  have g1 := hs.t
  have g2 := hs.x
  have g3 := hs.y
  by_cases hage : k - s.t < 0 ∨ u.loss < k - s.t
  · have hfin : Hid (Mo.near v u s k = false) := by show _ = _; unfold Mo.near; rw [if_pos hage]
    rcases hage with hage | hage
    · go_enter Tryz.func147, Tryz.ntmps147
      go_wp2
      go_ret
      exact ⟨ret_bool hfin.out.symm, ((Below.refl _ _).alloc (by simp) _).alloc (by simp) _⟩
    · have hage' : ¬ k - s.t < 0 := by omega
      go_enter Tryz.func147, Tryz.ntmps147
      go_wp2
      go_ret
      exact ⟨ret_bool hfin.out.symm, ((Below.refl _ _).alloc (by simp) _).alloc (by simp) _⟩
  · have ha1 : 0 ≤ k - s.t := by omega
    have ha2 : k - s.t ≤ u.loss := by omega
    have hcs : ((v.sx + k * v.dx ≤ s.x ∧ s.x ≤ v.sx + k * v.dx) ∧ (v.sy + k * v.dy ≤ s.y ∧ s.y ≤ v.sy + k * v.dy)) ∨ ((v.sx + k * v.dx ≤ s.x ∧ s.x ≤ v.sx + k * v.dx) ∧ v.sy + k * v.dy < s.y) ∨ ((v.sx + k * v.dx ≤ s.x ∧ s.x ≤ v.sx + k * v.dx) ∧ s.y < v.sy + k * v.dy) ∨ v.sx + k * v.dx < s.x ∨ s.x < v.sx + k * v.dx := by omega
    rcases hcs with ⟨⟨e1, e2⟩, ⟨e3, e4⟩⟩ | ⟨⟨e1, e2⟩, e3⟩ | ⟨⟨e1, e2⟩, e3⟩ | e3 | e3
    all_goals
      go_enter Tryz.func147, Tryz.ntmps147
      go_wp2_with fail
      refine (c175 _ _ _ _ _ _ _ hv hk).mono ?_
      rintro e w1 ⟨rfl, hb1⟩
      obtain ⟨hc1, hf1, hc2, hf2⟩ := bgrow hb1
      have hz0 : w.heap.size < w1.heap.size := by have := hb1.size; simp at this; omega
      have hz1 : w.heap.size + 1 < w1.heap.size := by have := hb1.size; simp at this; omega
      go_wp2
    · go_ret
      have hfin : Mo.near v u s k = true := by
        unfold Mo.near
        rw [if_neg (by omega), show v.sx + k * v.dx = s.x by omega, show v.sy + k * v.dy = s.y by omega]
        have := Mo.sq_nn (u.ring + u.speed * (k - s.t))
        simp [this]
      exact ⟨ret_bool hfin.symm, ((((Below.refl _ _).alloc (by simp) _).alloc (by simp) _).call hb1 rfl).alloc (by omega) _⟩
    all_goals
      obtain ⟨W2, hW2⟩ : ∃ W2, W2 = w1.alloc (Obj.cells #[.int .i64 (v.sx + k * v.dx), .int .i64 (v.sy + k * v.dy)] 23) := ⟨_, rfl⟩
      have q0 : W2.cell? ⟨w1.heap.size, 0, none⟩ = some (.int .i64 (v.sx + k * v.dx)) := by simp [hW2]
      have q1 : W2.cell? ⟨w1.heap.size, 1, none⟩ = some (.int .i64 (v.sy + k * v.dy)) := by simp [hW2]
      have q2 : W2.cell? ⟨w.heap.size + 1, 1, none⟩ = some (.int .i64 s.x) := by rw [hW2, hc2 _ _ _ hz1, hc1 _ _ (by simp)]; simp
      have q3 : W2.cell? ⟨w.heap.size + 1, 2, none⟩ = some (.int .i64 s.y) := by rw [hW2, hc2 _ _ _ hz1, hc1 _ _ (by simp)]; simp
      have q4 : W2.cell? ⟨w.heap.size, 0, none⟩ = some (.int .i64 u.ring) := by rw [hW2, hc2 _ _ _ hz0, hc1 _ _ (by simp; omega)]; simp
      have q5 : W2.cell? ⟨w.heap.size, 1, none⟩ = some (.int .i64 u.speed) := by rw [hW2, hc2 _ _ _ hz0, hc1 _ _ (by simp; omega)]; simp
      have hs2 : w1.heap.size < W2.heap.size := by simp [hW2]
      have hs0 : w.heap.size < W2.heap.size := by omega
      have hs1 : w.heap.size + 1 < W2.heap.size := by omega
      have hB2 : Below w.heap.size w W2 := by rw [hW2]; exact ((((Below.refl _ _).alloc (by simp) _).alloc (by simp) _).call hb1 rfl).alloc (by omega) _
      have p1 := Mo.mul_bd (a := u.speed) (b := k - s.t) (A := 1000) (B := 1000) (by omega) (by omega)
      have p2 := Mo.mul_bd (a := v.sx + k * v.dx - s.x) (b := v.sx + k * v.dx - s.x) (A := 4296000) (B := 4296000) (by omega) (by omega)
      have p3 := Mo.mul_bd (a := v.sy + k * v.dy - s.y) (b := v.sy + k * v.dy - s.y) (A := 4296000) (B := 4296000) (by omega) (by omega)
      have p4 := Mo.mul_bd (a := u.ring + u.speed * (k - s.t)) (b := u.ring + u.speed * (k - s.t)) (A := 1010000) (B := 1010000) (by omega) (by omega)
      have hfin : Hid (Mo.near v u s k = decide ((v.sx + k * v.dx - s.x) * (v.sx + k * v.dx - s.x) + (v.sy + k * v.dy - s.y) * (v.sy + k * v.dy - s.y) ≤ (u.ring + u.speed * (k - s.t)) * (u.ring + u.speed * (k - s.t)))) := by show _ = _; unfold Mo.near; rw [if_neg (by omega)]
      rw [← hW2]
      clear hW2 hc1 hf1 hc2 hf2 hb1
      refine wp_region_growG (by kernel_rfl) (by kernel_rfl) ?_
      repeat (go_big_quiet_step ((first | fail)))
      refine wpQuiet_nil (gw_out ?_)
      intro w3 hb3
      go_wp2
      go_ret
      exact ⟨ret_bool hfin.out.symm, fin0 hB2 hb3⟩

end Go.Proofs.YtndhjkammoeikaaGreatDoor
namespace Go.Proofs.YtndhjkammoeikaaGreatDoor
namespace Mo
def idx {α : Type} (p : α → Bool) : List α → Nat → Int
  | [], _ => -1
  | x :: xs, k => if p x then (k : Int) else idx p xs (k + 1)
theorem idx_step {α : Type} (p : α → Bool) {l : List α} {k : Nat} {x : α} (h : l[k]? = some x) : idx p (l.drop k) k = if p x then (k : Int) else idx p (l.drop (k + 1)) (k + 1) := by
  obtain ⟨hk, rfl⟩ := List.getElem?_eq_some_iff.1 h
  rw [List.drop_eq_getElem_cons hk]; rfl
theorem idx_end {α : Type} (p : α → Bool) {l : List α} {k : Nat} (h : l.length ≤ k) : idx p (l.drop k) k = -1 := by
  rw [List.drop_of_length_le h]; rfl
theorem idx_bd {α : Type} (p : α → Bool) (l : List α) : ∀ k : Nat, (l.any p = true → (k : Int) ≤ idx p l k) ∧ (l.any p = false → idx p l k = -1) := by
  induction l with
  | nil => intro k; simp [idx]
  | cons x xs ih =>
    intro k
    have := ih (k + 1)
    simp only [List.any_cons, idx]
    cases hx : p x
    · simp only [Bool.false_or, Bool.false_eq_true, if_false]
      exact ⟨fun h => by have := this.1 h; omega, this.2⟩
    · simp
theorem idx_any {α : Type} (p : α → Bool) (l : List α) : decide (0 ≤ idx p l 0) = l.any p := by
  have := idx_bd p l 0
  cases h : l.any p
  · rw [this.2 h]; rfl
  · simpa using this.1 h
end Mo
end Go.Proofs.YtndhjkammoeikaaGreatDoor
namespace Go.Proofs.YtndhjkammoeikaaGreatDoor
open Go.RowKit
set_option maxHeartbeats 400000

theorem c174 (A : Option Addr) (cap : Nat) (l : List Sgt) (p0 p1 : Addr) (p : Sgt → Bool) (w : World) (hl : l.length ≤ 1000000) (H : RdL w 3 Sgt.enc A l)
   (hcl : ∀ (W : World) (x : Sgt), x ∈ l → Below w.heap.size w W →
      Calls Tryz.prog 146 #[.agg #[.int .i64 x.t, .int .i64 x.x, .int .i64 x.y], .pointer (some p0), .pointer (some p1)] W fun e w' => e = .returned (.bool (p x)) ∧ Below W.heap.size W w') :
   Calls Tryz.prog 174 #[.slice A l.length cap, .func (.func 146) #[] #[.pointer (some p0), .pointer (some p1)]] w fun en w' => en = .returned (.int .i64 (Mo.idx p l 0)) ∧ Below w.heap.size w w' := by
  obtain ⟨n, hn⟩ : ∃ n, n = l.length := ⟨_, rfl⟩
  rw [← hn] at hl ⊢
  have Hn := Lib.hid hn
  have Hcl := Lib.hid hcl
  clear hcl hn
  go_enter Tryz.func174, Tryz.ntmps174
  go_wp2
  go_loopw [8] (fun i wr => ∃ k : Nat, k ≤ n ∧ i = .int .i64 k ∧ Below w.heap.size w wr ∧ Mo.idx p l 0 = Mo.idx p (l.drop k) k) (fun i _ => n - (intOf i).toNat)
  case atStart => exact ⟨0, Nat.zero_le _, rfl, Below.refl _ _, rfl⟩
  case round =>
    obtain ⟨k, hk, rfl, hB, he⟩ := hrel
    have HE := Lib.hid he
    clear he
    by_cases hlt : k < n
    · obtain ⟨b, off, x, rfl, hx, hb, hc⟩ := (H.below hB).at Sgt.len (by rw [← Hn.out]; exact hlt)
      have Hx := Lib.hid hx
      have h0 : wr.cell? ⟨b, off + k * 3, none⟩ = some (.int .i64 x.t) := hc 0 (by omega)
      have h1 : wr.cell? ⟨b, off + k * 3 + 1, none⟩ = some (.int .i64 x.x) := hc 1 (by omega)
      have h2 : wr.cell? ⟨b, off + k * 3 + 2, none⟩ = some (.int .i64 x.y) := hc 2 (by omega)
      clear hc hx
      have Hs := Lib.hid (Mo.idx_step p Hx.out)
      go_wp2_with fail
      refine (Hcl.out _ x (List.mem_of_getElem? Hx.out) hB).mono ?_
      rintro e w1 ⟨rfl, hb1⟩
      have hB2 := fin0 hB hb1
      cases hp : p x
      · have HP := Lib.hid hp
        clear hp
        go_wp2
        go_roundw
        case rel => exact ⟨k+1, by omega, by go_num, hB2, by rw [HE.out, Hs.out, if_neg (by rw [HP.out]; simp)]⟩
        case measure => simp [intOf]; omega
      · have HP := Lib.hid hp
        clear hp
        go_wp2
        go_ret
        exact ⟨ret_int (by rw [HE.out, Hs.out, if_pos HP.out]), hB2⟩
    · go_wp2
      go_ret
      exact ⟨ret_int (by rw [HE.out, Mo.idx_end _ (by rw [← Hn.out]; omega)]), hB⟩
theorem c145 (A : Option Addr) (cap : Nat) (l : List Sgt) (p0 p1 : Addr) (p : Sgt → Bool) (w : World) (hl : l.length ≤ 1000000) (H : RdL w 3 Sgt.enc A l)
   (hcl : ∀ (W : World) (x : Sgt), x ∈ l → Below w.heap.size w W →
      Calls Tryz.prog 146 #[.agg #[.int .i64 x.t, .int .i64 x.x, .int .i64 x.y], .pointer (some p0), .pointer (some p1)] W fun e w' => e = .returned (.bool (p x)) ∧ Below W.heap.size W w') :
   Calls Tryz.prog 145 #[.slice A l.length cap, .func (.func 146) #[] #[.pointer (some p0), .pointer (some p1)]] w fun en w' => en = .returned (.bool (l.any p)) ∧ Below w.heap.size w w' := by
  have HC := Lib.hid (c174 A cap l p0 p1 p w hl H hcl)
  clear hcl H
  go_enter Tryz.func145, Tryz.ntmps145
  go_wp2_with fail
  refine HC.out.mono ?_
  rintro e w1 ⟨rfl, hb1⟩
  go_wp2
  go_ret
  exact ⟨ret_bool (by rw [← Mo.idx_any]), hb1⟩

theorem c176 (A : Option Addr) (cap : Nat) (l : List Spn) (p0 : Addr) (p : Spn → Bool) (w : World) (hl : l.length ≤ 1000000) (H : RdL w 2 Spn.enc A l)
   (hcl : ∀ (W : World) (x : Spn), x ∈ l → Below w.heap.size w W →
      Calls Tryz.prog 151 #[.agg #[.int .i64 x.f, .int .i64 x.t], .pointer (some p0)] W fun e w' => e = .returned (.bool (p x)) ∧ Below W.heap.size W w') :
   Calls Tryz.prog 176 #[.slice A l.length cap, .func (.func 151) #[] #[.pointer (some p0)]] w fun en w' => en = .returned (.int .i64 (Mo.idx p l 0)) ∧ Below w.heap.size w w' := by
  obtain ⟨n, hn⟩ : ∃ n, n = l.length := ⟨_, rfl⟩
  rw [← hn] at hl ⊢
  have Hn := Lib.hid hn
  have Hcl := Lib.hid hcl
  clear hcl hn
  go_enter Tryz.func176, Tryz.ntmps176
  go_wp2
  go_loopw [8] (fun i wr => ∃ k : Nat, k ≤ n ∧ i = .int .i64 k ∧ Below w.heap.size w wr ∧ Mo.idx p l 0 = Mo.idx p (l.drop k) k) (fun i _ => n - (intOf i).toNat)
  case atStart => exact ⟨0, Nat.zero_le _, rfl, Below.refl _ _, rfl⟩
  case round =>
    obtain ⟨k, hk, rfl, hB, he⟩ := hrel
    have HE := Lib.hid he
    clear he
    by_cases hlt : k < n
    · obtain ⟨b, off, x, rfl, hx, hb, hc⟩ := (H.below hB).at Spn.len (by rw [← Hn.out]; exact hlt)
      have Hx := Lib.hid hx
      have h0 : wr.cell? ⟨b, off + k * 2, none⟩ = some (.int .i64 x.f) := hc 0 (by omega)
      have h1 : wr.cell? ⟨b, off + k * 2 + 1, none⟩ = some (.int .i64 x.t) := hc 1 (by omega)
      clear hc hx
      have Hs := Lib.hid (Mo.idx_step p Hx.out)
      go_wp2_with fail
      refine (Hcl.out _ x (List.mem_of_getElem? Hx.out) hB).mono ?_
      rintro e w1 ⟨rfl, hb1⟩
      have hB2 := fin0 hB hb1
      cases hp : p x
      · have HP := Lib.hid hp
        clear hp
        go_wp2
        go_roundw
        case rel => exact ⟨k+1, by omega, by go_num, hB2, by rw [HE.out, Hs.out, if_neg (by rw [HP.out]; simp)]⟩
        case measure => simp [intOf]; omega
      · have HP := Lib.hid hp
        clear hp
        go_wp2
        go_ret
        exact ⟨ret_int (by rw [HE.out, Hs.out, if_pos HP.out]), hB2⟩
    · go_wp2
      go_ret
      exact ⟨ret_int (by rw [HE.out, Mo.idx_end _ (by rw [← Hn.out]; omega)]), hB⟩
theorem c150 (A : Option Addr) (cap : Nat) (l : List Spn) (p0 : Addr) (p : Spn → Bool) (w : World) (hl : l.length ≤ 1000000) (H : RdL w 2 Spn.enc A l)
   (hcl : ∀ (W : World) (x : Spn), x ∈ l → Below w.heap.size w W →
      Calls Tryz.prog 151 #[.agg #[.int .i64 x.f, .int .i64 x.t], .pointer (some p0)] W fun e w' => e = .returned (.bool (p x)) ∧ Below W.heap.size W w') :
   Calls Tryz.prog 150 #[.slice A l.length cap, .func (.func 151) #[] #[.pointer (some p0)]] w fun en w' => en = .returned (.bool (l.any p)) ∧ Below w.heap.size w w' := by
  have HC := Lib.hid (c176 A cap l p0 p w hl H hcl)
  clear hcl H
  go_enter Tryz.func150, Tryz.ntmps150
  go_wp2_with fail
  refine HC.out.mono ?_
  rintro e w1 ⟨rfl, hb1⟩
  go_wp2
  go_ret
  exact ⟨ret_bool (by rw [← Mo.idx_any]), hb1⟩

theorem c163 (A : Option Addr) (cap : Nat) (l : List Res) (p0 : Addr) (p : Res → Bool) (w : World) (hl : l.length ≤ 1000000) (H : RdL w 3 Res.enc A l)
   (hcl : ∀ (W : World) (x : Res), x ∈ l → Below w.heap.size w W →
      Calls Tryz.prog 132 #[.agg #[.string x.n, .int .i64 x.f, .int .i64 x.w], .pointer (some p0)] W fun e w' => e = .returned (.bool (p x)) ∧ Below W.heap.size W w') :
   Calls Tryz.prog 163 #[.slice A l.length cap, .func (.func 132) #[] #[.pointer (some p0)]] w fun en w' => en = .returned (.int .i64 (Mo.idx p l 0)) ∧ Below w.heap.size w w' := by
  obtain ⟨n, hn⟩ : ∃ n, n = l.length := ⟨_, rfl⟩
  rw [← hn] at hl ⊢
  have Hn := Lib.hid hn
  have Hcl := Lib.hid hcl
  clear hcl hn
  go_enter Tryz.func163, Tryz.ntmps163
  go_wp2
  go_loopw [8] (fun i wr => ∃ k : Nat, k ≤ n ∧ i = .int .i64 k ∧ Below w.heap.size w wr ∧ Mo.idx p l 0 = Mo.idx p (l.drop k) k) (fun i _ => n - (intOf i).toNat)
  case atStart => exact ⟨0, Nat.zero_le _, rfl, Below.refl _ _, rfl⟩
  case round =>
    obtain ⟨k, hk, rfl, hB, he⟩ := hrel
    have HE := Lib.hid he
    clear he
    by_cases hlt : k < n
    · obtain ⟨b, off, x, rfl, hx, hb, hc⟩ := (H.below hB).at Res.len (by rw [← Hn.out]; exact hlt)
      have Hx := Lib.hid hx
      have h0 : wr.cell? ⟨b, off + k * 3, none⟩ = some (.string x.n) := hc 0 (by omega)
      have h1 : wr.cell? ⟨b, off + k * 3 + 1, none⟩ = some (.int .i64 x.f) := hc 1 (by omega)
      have h2 : wr.cell? ⟨b, off + k * 3 + 2, none⟩ = some (.int .i64 x.w) := hc 2 (by omega)
      clear hc hx
      have Hs := Lib.hid (Mo.idx_step p Hx.out)
      go_wp2_with fail
      refine (Hcl.out _ x (List.mem_of_getElem? Hx.out) hB).mono ?_
      rintro e w1 ⟨rfl, hb1⟩
      have hB2 := fin0 hB hb1
      cases hp : p x
      · have HP := Lib.hid hp
        clear hp
        go_wp2
        go_roundw
        case rel => exact ⟨k+1, by omega, by go_num, hB2, by rw [HE.out, Hs.out, if_neg (by rw [HP.out]; simp)]⟩
        case measure => simp [intOf]; omega
      · have HP := Lib.hid hp
        clear hp
        go_wp2
        go_ret
        exact ⟨ret_int (by rw [HE.out, Hs.out, if_pos HP.out]), hB2⟩
    · go_wp2
      go_ret
      exact ⟨ret_int (by rw [HE.out, Mo.idx_end _ (by rw [← Hn.out]; omega)]), hB⟩
theorem c131 (A : Option Addr) (cap : Nat) (l : List Res) (p0 : Addr) (p : Res → Bool) (w : World) (hl : l.length ≤ 1000000) (H : RdL w 3 Res.enc A l)
   (hcl : ∀ (W : World) (x : Res), x ∈ l → Below w.heap.size w W →
      Calls Tryz.prog 132 #[.agg #[.string x.n, .int .i64 x.f, .int .i64 x.w], .pointer (some p0)] W fun e w' => e = .returned (.bool (p x)) ∧ Below W.heap.size W w') :
   Calls Tryz.prog 131 #[.slice A l.length cap, .func (.func 132) #[] #[.pointer (some p0)]] w fun en w' => en = .returned (.bool (l.any p)) ∧ Below w.heap.size w w' := by
  have HC := Lib.hid (c163 A cap l p0 p w hl H hcl)
  clear hcl H
  go_enter Tryz.func131, Tryz.ntmps131
  go_wp2_with fail
  refine HC.out.mono ?_
  rintro e w1 ⟨rfl, hb1⟩
  go_wp2
  go_ret
  exact ⟨ret_bool (by rw [← Mo.idx_any]), hb1⟩

end Go.Proofs.YtndhjkammoeikaaGreatDoor
