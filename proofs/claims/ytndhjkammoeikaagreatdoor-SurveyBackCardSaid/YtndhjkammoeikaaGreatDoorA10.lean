/- A part of the proofs about chapter 9: contracts of functions and plain laws (W50, W51, W52, Model21, W53). -/
import Derived.Test.YtndhjkammoeikaaGreatDoorA09
set_option linter.all false
namespace Go.Proofs.YtndhjkammoeikaaGreatDoor
open Go.RowKit
set_option maxHeartbeats 1000000
set_option maxRecDepth 20000

theorem c70 (A : Option Addr) (cap : Nat) (l : List Res) (w : World) (hlen : l.length ≤ 1000000) (hsz : ∀ x ∈ l, x.n.size ≤ 1000000) (H : RdL w 3 Res.enc A l) :
    Calls Tryz.prog 70 #[.slice A l.length cap] w fun en w' => en = .returned (.int .i64 (Mo.results l)) ∧ Below w.heap.size w w' := by
  obtain ⟨i0, hi, hz0, hz1, hz2⟩ := info_parts info9
  obtain ⟨n, hn⟩ : ∃ n, n = l.length := ⟨_, rfl⟩
  rw [← hn] at hlen ⊢
  have Hn := Lib.hid hn
  clear hn
  by_cases hn : 64 < n
  · go_enter Tryz.func70, Tryz.ntmps70
    go_wp2
    go_ret
    exact ⟨ret_int (by simp [Mo.results, Mo.each, ← Hn.out, hn]), Below.refl _ _⟩
  · have hmo : Hid (Mo.results l = Mo.first ((List.range n).map (Mo.res1 l))) := by show _ = _; simp [Mo.results, Mo.each, ← Hn.out, hn]
    go_enter Tryz.func70, Tryz.ntmps70
    go_wp2
    go_loopw [3, 4] (fun x i wr => ∃ k : Nat, k ≤ n ∧ i = .int .i64 k ∧ wr.ownsRow w.heap.size 9 1 x k (((l.take k).map Res.n).map Value.string) ∧ Below w.heap.size w wr ∧ Mo.results l = Mo.first (((List.range n).map (Mo.res1 l)).drop k)) (fun _ i _ => n - (intOf i).toNat)
    case atStart => exact ⟨0, Nat.zero_le _, rfl, World.ownsRow_nil _ _ _ _, Below.refl _ _, by rw [hmo.out]; rfl⟩
    case round =>
      obtain ⟨k, hk, rfl, hown, hB, he⟩ := hrel
      have HE := Lib.hid he
      clear he
      by_cases hlt : k < n
      · obtain ⟨b, off, s, rfl, hx, hb, hc⟩ := (H.below hB).at Res.len (by rw [← Hn.out]; exact hlt)
        have Hs := Lib.hid (Mo.first_range n k (Mo.res1 l) hlt)
        have Hr := Lib.hid (Mo.res1_eq hx)
        have h0 : wr.cell? ⟨b, off + k * 3, none⟩ = some (.string s.n) := hc 0 (by omega)
        have h1 : wr.cell? ⟨b, off + k * 3 + 1, none⟩ = some (.int .i64 s.f) := hc 1 (by omega)
        have h2 : wr.cell? ⟨b, off + k * 3 + 2, none⟩ = some (.int .i64 s.w) := hc 2 (by omega)
        have hss := hsz s (List.mem_of_getElem? hx)
        have hkl : k < l.length := by rw [← Hn.out]; exact hlt
        have hstep : Hid (((l.take k).map Res.n).map Value.string ++ [.string s.n] = ((l.take (k + 1)).map Res.n).map Value.string) := by
          show _ = _
          obtain ⟨hk', rfl⟩ := List.getElem?_eq_some_iff.1 hx
          rw [List.take_succ_eq_append_getElem hk', List.map_append, List.map_append]; rfl
        obtain ⟨xA, xc, rfl⟩ : ∃ xA xc, u3 = .slice xA k xc := by
          rcases hown.2 with ⟨h, h'⟩ | ⟨g', cap', cur, h, _⟩
          · exact ⟨none, 0, by rw [h, h']⟩
          · exact ⟨_, cap', h⟩
        obtain ⟨xA', xc', hxe, hRx⟩ := Sl.of_own hown
        obtain ⟨rfl, -, rfl⟩ : xA = xA' ∧ k = k ∧ xc = xc' := by simpa using hxe
        have HW := fun c => Lib.hid (c128 xA k xc ((l.take k).map Res.n) c wr (by rw [List.length_map, List.length_take]; omega) (by omega) hRx)
        obtain ⟨T, hT⟩ : ∃ T, T = Mo.hasW ((l.take k).map Res.n) s.n := ⟨_, rfl⟩
        rw [← hT] at Hr
        have HW2 := HW s.n
        rw [← hT] at HW2
        obtain ⟨ns, hns⟩ : ∃ ns, ns = ((l.take k).map Res.n).map Value.string := ⟨_, rfl⟩
        rw [← hns] at hown hstep
        obtain ⟨E1, hE1⟩ : ∃ E1, E1 = Mo.names1 s.n := ⟨_, rfl⟩
        have HC := Lib.hid (c127 s.n wr hss)
        rw [← hE1] at HC Hr
        clear hc hx HW hRx hxe hT hns hE1 hkl
        by_cases hE0 : E1 = 0
        · subst hE0
          cases T
          · by_cases hz : Mo.first [Mo.range s.f 0 10000, Mo.range s.w 0 10000] = 0
            · have hz' : (Mo.first [Mo.range s.f 0 10000, Mo.range s.w 0 10000] != 0) = false := by simp [hz]
              have hnx : Hid (Mo.results l = Mo.first (((List.range n).map (Mo.res1 l)).drop (k + 1))) := by
                show _ = _
                have h3 := Hr.out
                rw [if_neg (by simp), if_neg (by simp), hz] at h3
                rw [HE.out, Hs.out, h3, if_neg (by simp)]
              clear hz Hs Hr
              go_wp2_with (first | (go_at_call 127; refine HC.out.mono ?_; rintro e w' ⟨rfl, rfl⟩) | (go_at_call 128; refine HW2.out.mono ?_; rintro e w' ⟨rfl, rfl⟩))
              refine wp_region_splitG 12 (by kernel_rfl) (by kernel_rfl) ?_
              simp only [List.take_succ_cons, List.take_zero, List.drop_succ_cons, List.drop_zero]
              repeat (go_big_quiet_step ((first | (go_at_call 49; exact Calls.gw_same (c49 _ _ _ _)))))
              refine wpQuiet_nil (gw_out ?_)
              intro w1 hb1
              have hB1 := fin0 hB hb1
              have hown1 := own_below hown hb1
              have p0 := (hb1.cell (p := ⟨b, _, none⟩) hb).trans h0
              have hbw : b < w1.heap.size := Nat.lt_of_lt_of_le hb hb1.size
              have hal : Below w1.heap.size w1 (w1.alloc (Obj.cells #[.int .i64 (Mo.range s.f 0 10000), .int .i64 (Mo.range s.w 0 10000)] 3)) := (Below.refl _ _).alloc (Nat.le_refl _) _
              have hB2 := hB1.call hal rfl
              have hown2 := own_below hown1 hal
              have hsz2 := hB2.size
              have hsz1 := hB1.size
              clear hown hown1 hb1 h0 h1 h2 hal hB1
              go_wp2_with (first | (go_at_call 92; refine (c92 _ 2 _ [Mo.range s.f 0 10000, Mo.range s.w 0 10000] _ rfl (by omega) ?_).mono ?_; (first | exact RdS.of_new (by simp) rfl | exact RdS.drew (RdS.of_new (by simp) rfl)); rintro e w' ⟨rfl, rfl⟩) | (at_builtin; refine wpList_append_own _ rfl _ _ 88 rfl w.heap.size 9 i0 (.string ByteArray.empty) 1 16 Tryz.underlying88 hi hz0 hz1 hz2 rfl (by decide) _ _ _ rfl (hown2.alloc _) ⟨w1.heap.size + 1, 0, none⟩ 1 1 [.string s.n] rfl rfl (news_one _ _ (by simp)) (by intro x hx; simp at hx; subst hx; rfl) (by unfold maxLen; omega) (by omega) (by simp; omega) ?_))
              intro x' w3 hown3 hg3 _
              have hB3 : Below w.heap.size w w3 := (hB2.alloc hsz2 _).grown hg3 (by simp; omega) (fun g hg => (hown2.lt g hg).1)
              rw [hstep.out] at hown3
              have HO := Lib.hid hown3
              clear hown3 hg3 hown2
              go_wp2
              go_roundw
              case rel => exact ⟨k + 1, by omega, by go_num, HO.out, hB3, hnx.out⟩
              case measure => simp [intOf]; omega
            · have hz' : (Mo.first [Mo.range s.f 0 10000, Mo.range s.w 0 10000] != 0) = true := by simpa using hz
              have hnx : Hid (Mo.results l = Mo.first [Mo.range s.f 0 10000, Mo.range s.w 0 10000]) := by
                show _ = _
                have h3 := Hr.out
                rw [if_neg (by simp), if_neg (by simp)] at h3
                rw [HE.out, Hs.out, h3, if_pos hz]
              clear hz Hs Hr hown
              go_wp2_with (first | (go_at_call 127; refine HC.out.mono ?_; rintro e w' ⟨rfl, rfl⟩) | (go_at_call 128; refine HW2.out.mono ?_; rintro e w' ⟨rfl, rfl⟩))
              refine wp_region_splitG 12 (by kernel_rfl) (by kernel_rfl) ?_
              simp only [List.take_succ_cons, List.take_zero, List.drop_succ_cons, List.drop_zero]
              repeat (go_big_quiet_step ((first | (go_at_call 49; exact Calls.gw_same (c49 _ _ _ _)))))
              refine wpQuiet_nil (gw_out ?_)
              intro w1 hb1
              go_wp2_with (first | (go_at_call 92; refine (c92 _ 2 _ [Mo.range s.f 0 10000, Mo.range s.w 0 10000] _ rfl (by omega) ?_).mono ?_; (first | exact RdS.of_new (by simp) rfl | exact RdS.drew (RdS.of_new (by simp) rfl)); rintro e w' ⟨rfl, rfl⟩))
              go_ret
              exact ⟨ret_int hnx.out.symm, fin1 hB hb1 _⟩
          · have hnx : Hid (Mo.results l = 9) := by
              show _ = _
              have h3 := Hr.out
              rw [if_neg (by simp), if_pos rfl] at h3
              rw [HE.out, Hs.out, h3, if_pos (by decide)]
            clear Hs Hr hown
            go_wp2_with (first | (go_at_call 127; refine HC.out.mono ?_; rintro e w' ⟨rfl, rfl⟩) | (go_at_call 128; refine HW2.out.mono ?_; rintro e w' ⟨rfl, rfl⟩))
            go_ret
            exact ⟨ret_int hnx.out.symm, hB⟩
        · have hE' : (E1 != 0) = true := by simpa using hE0
          have hnx : Hid (Mo.results l = E1) := by
            show _ = _
            have h3 := Hr.out
            rw [if_pos hE0] at h3
            rw [HE.out, Hs.out, h3, if_pos hE0]
          clear Hs Hr hown
          go_wp2_with (first | (go_at_call 127; refine HC.out.mono ?_; rintro e w' ⟨rfl, rfl⟩) | (go_at_call 128; refine HW2.out.mono ?_; rintro e w' ⟨rfl, rfl⟩))
          go_ret
          exact ⟨ret_int hnx.out.symm, hB⟩
      · go_wp2
        go_ret
        exact ⟨ret_int (by rw [HE.out, Mo.first_range_end _ _ _ (by omega)]), hB⟩

end Go.Proofs.YtndhjkammoeikaaGreatDoor
namespace Go.Proofs.YtndhjkammoeikaaGreatDoor
open Go.RowKit
set_option maxHeartbeats 1000000
set_option maxRecDepth 20000

theorem c71 (A : Option Addr) (cap : Nat) (l : List Res) (w : World) (hlen : l.length ≤ 1000000) (H : RdL w 3 Res.enc A l) :
    Calls Tryz.prog 71 #[.slice A l.length cap] w fun en w' => ∃ x y, en = .returned (.tuple #[x, y]) ∧ Sl w' 1 x (Mo.acc l).length ((Mo.acc l).map Value.string) ∧ Sl w' 1 y (Mo.rej l).length ((Mo.rej l).map Value.string) ∧ Below w.heap.size w w' := by
  obtain ⟨i0, hi, hz0, hz1, hz2⟩ := info_parts info9
  obtain ⟨n, hn⟩ : ∃ n, n = l.length := ⟨_, rfl⟩
  rw [← hn] at hlen ⊢
  have Hn := Lib.hid hn
  clear hn
  go_enter Tryz.func71, Tryz.ntmps71
  go_wp2
  go_loopw [4, 5, 6] (fun x y i wr => ∃ k : Nat, k ≤ n ∧ i = .int .i64 k ∧ wr.ownsRow w.heap.size 9 1 x (Mo.acc (l.take k)).length ((Mo.acc (l.take k)).map Value.string) ∧ wr.ownsRow w.heap.size 9 1 y (Mo.rej (l.take k)).length ((Mo.rej (l.take k)).map Value.string) ∧ Apart x y ∧ Below w.heap.size w wr) (fun _ _ i _ => n - (intOf i).toNat)
  case atStart => exact ⟨0, Nat.zero_le _, rfl, World.ownsRow_nil _ _ _ _, World.ownsRow_nil _ _ _ _, fun g h => by simp [Value.ownBlock] at h, Below.refl _ _⟩
  case round =>
    obtain ⟨k, hk, rfl, hx0, hy0, hap, hB⟩ := hrel
    by_cases hlt : k < n
    · obtain ⟨b, off, s, rfl, hx, hb, hc⟩ := (H.below hB).at Res.len (by rw [← Hn.out]; exact hlt)
      have h0 : wr.cell? ⟨b, off + k * 3, none⟩ = some (.string s.n) := hc 0 (by omega)
      have h1 : wr.cell? ⟨b, off + k * 3 + 1, none⟩ = some (.int .i64 s.f) := hc 1 (by omega)
      have h2 : wr.cell? ⟨b, off + k * 3 + 2, none⟩ = some (.int .i64 s.w) := hc 2 (by omega)
      have hal := Mo.acc_len (l.take k)
      have hrl := Mo.rej_len (l.take k)
      have htl : (l.take k).length ≤ k := by rw [List.length_take]; omega
      have hyes := fun h => Mo.acc_yes hx h
      have hno := fun h => Mo.acc_no hx h
      obtain ⟨a, ha⟩ : ∃ a, a = Mo.acc (l.take k) := ⟨_, rfl⟩
      obtain ⟨r, hr⟩ : ∃ r, r = Mo.rej (l.take k) := ⟨_, rfl⟩
      rw [← ha] at hx0 hal hyes hno
      rw [← hr] at hy0 hrl hyes hno
      clear hc hx ha hr
      by_cases hcmp : s.w ≤ s.f
      · have HYN := Lib.hid (hyes hcmp)
        clear hyes hno
        go_wp2
        refine wp_region_growG (by kernel_rfl) (by kernel_rfl) ?_
        repeat (go_big_quiet_step ((first | fail)))
        refine wpQuiet_nil (gw_out ?_)
        intro w1 hb1
        have hB1 := fin0 hB hb1
        have hx1 := own_below hx0 hb1
        have hy1 := own_below hy0 hb1
        have p0 := (hb1.cell (p := ⟨b, _, none⟩) hb).trans h0
        have hbw : b < w1.heap.size := Nat.lt_of_lt_of_le hb hb1.size
        have hsz1 := hB1.size
        clear hx0 hy0 h0 h1 h2 hb1
        go_wp2_with (at_builtin; refine wpList_append_lies _ rfl _ _ 88 rfl w.heap.size 9 i0 (.string ByteArray.empty) 1 16 Tryz.underlying88 hi hz0 hz1 hz2 rfl (by decide) _ _ _ rfl (hx1.alloc _) ⟨w1.heap.size, 0, none⟩ 1 1 [.string s.n] rfl rfl (news_one _ _ (by simp)) (by intro x hx; simp at hx; first | (subst hx; rfl) | (rcases hx with rfl | rfl <;> rfl) | (rcases hx with rfl | rfl | rfl <;> rfl)) (by omega) (by unfold maxLen; omega) (by omega) (by simp; omega) _ rfl ?_)
        intro g' cap' w3 hown3 hg3 hat3 hlt3
        have hB3 : Below w.heap.size w w3 := (hB1.alloc hB1.size _).grown hg3 (by simp; omega) (fun g hg => by have := (hx1.lt g hg).1; omega)
        have hoth3 := own_apart (hy1.alloc _) hg3 hap
        have hapn : Apart (.slice (some ⟨g', 0, none⟩) (a.length + 1) cap') u5 := fun g hgg hzz => by
          have e : g' = g := by simpa [Value.ownBlock] using hgg
          rcases hat3 with h | h
          · exact hap g' h (by rw [e]; exact hzz)
          · have := (hy1.lt g hzz).2
            try simp at h
            omega
        have hlist : (a.map Value.string) ++ [.string s.n] = (a ++ [s.n]).map Value.string := by simp
        rw [hlist] at hown3
        have hlen1 : a.length + 1 = (a ++ [s.n]).length := by simp
        have HO : Hid (w3.ownsRow w.heap.size 9 1 (.slice (some ⟨g', 0, none⟩) (a.length + 1) cap') (a ++ [s.n]).length ((a ++ [s.n]).map Value.string)) := by show World.ownsRow _ _ _ _ _ _ _; rw [← hlen1]; exact hown3
        have HO2 := Lib.hid hoth3
        clear hown3 hg3 hoth3 hat3 hlist hlen1 hx1 hy1
        go_wp2
        go_roundw
        case rel => exact ⟨k + 1, by omega, by go_num, by rw [HYN.out.1]; exact HO.out, by rw [HYN.out.2]; exact HO2.out, hapn, hB3⟩
        case measure => simp [intOf]; omega
      · have HYN := Lib.hid (hno hcmp)
        clear hyes hno
        have hcmp' : s.f < s.w := by omega
        go_wp2
        refine wp_region_growG (by kernel_rfl) (by kernel_rfl) ?_
        repeat (go_big_quiet_step ((first | fail)))
        refine wpQuiet_nil (gw_out ?_)
        intro w1 hb1
        have hB1 := fin0 hB hb1
        have hx1 := own_below hx0 hb1
        have hy1 := own_below hy0 hb1
        have p0 := (hb1.cell (p := ⟨b, _, none⟩) hb).trans h0
        have hbw : b < w1.heap.size := Nat.lt_of_lt_of_le hb hb1.size
        have hsz1 := hB1.size
        clear hx0 hy0 h0 h1 h2 hb1
        go_wp2_with (at_builtin; refine wpList_append_lies _ rfl _ _ 88 rfl w.heap.size 9 i0 (.string ByteArray.empty) 1 16 Tryz.underlying88 hi hz0 hz1 hz2 rfl (by decide) _ _ _ rfl (hy1.alloc _) ⟨w1.heap.size, 0, none⟩ 1 1 [.string s.n] rfl rfl (news_one _ _ (by simp)) (by intro x hx; simp at hx; first | (subst hx; rfl) | (rcases hx with rfl | rfl <;> rfl) | (rcases hx with rfl | rfl | rfl <;> rfl)) (by omega) (by unfold maxLen; omega) (by omega) (by simp; omega) _ rfl ?_)
        intro g' cap' w3 hown3 hg3 hat3 hlt3
        have hB3 : Below w.heap.size w w3 := (hB1.alloc hB1.size _).grown hg3 (by simp; omega) (fun g hg => by have := (hy1.lt g hg).1; omega)
        have hoth3 := own_apart (hx1.alloc _) hg3 hap.symm
        have hapn : Apart (.slice (some ⟨g', 0, none⟩) (r.length + 1) cap') u4 := fun g hgg hzz => by
          have e : g' = g := by simpa [Value.ownBlock] using hgg
          rcases hat3 with h | h
          · exact hap.symm g' h (by rw [e]; exact hzz)
          · have := (hx1.lt g hzz).2
            try simp at h
            omega
        have hlist : (r.map Value.string) ++ [.string s.n] = (r ++ [s.n]).map Value.string := by simp
        rw [hlist] at hown3
        have hlen1 : r.length + 1 = (r ++ [s.n]).length := by simp
        have HO : Hid (w3.ownsRow w.heap.size 9 1 (.slice (some ⟨g', 0, none⟩) (r.length + 1) cap') (r ++ [s.n]).length ((r ++ [s.n]).map Value.string)) := by show World.ownsRow _ _ _ _ _ _ _; rw [← hlen1]; exact hown3
        have HO2 := Lib.hid hoth3
        clear hown3 hg3 hoth3 hat3 hlist hlen1 hx1 hy1
        go_wp2
        go_roundw
        case rel => exact ⟨k + 1, by omega, by go_num, by rw [HYN.out.1]; exact HO2.out, by rw [HYN.out.2]; exact HO.out, hapn.symm, hB3⟩
        case measure => simp [intOf]; omega
    · obtain rfl : k = n := by omega
      have hta : l.take k = l := by rw [Hn.out, List.take_length]
      rw [hta] at hx0 hy0
      have HX := Lib.hid (Sl.of_own hx0)
      have HY := Lib.hid (Sl.of_own hy0)
      clear hx0 hy0 hta
      go_wp2
      go_ret2
      exact ⟨_, _, rfl, HX.out, HY.out, hB⟩

end Go.Proofs.YtndhjkammoeikaaGreatDoor
namespace Go.Proofs.YtndhjkammoeikaaGreatDoor
open Go.RowKit
set_option maxHeartbeats 1000000
set_option maxRecDepth 20000

theorem c69 (A : Option Addr) (cap : Nat) (l : List Res) (w : World) (hlen : l.length ≤ 1000000) (hcap : l.length ≤ cap) (hcap2 : cap ≤ 9223372036854775807) (hsz : ∀ x ∈ l, x.n.size ≤ 1000000) (H : RdL w 3 Res.enc A l) :
    Calls Tryz.prog 69 #[.slice A l.length cap] w fun en w' => ∃ x y, en = .returned (.tuple #[x, y, .int .i64 (Mo.results l)]) ∧ Sl w' 1 x (Mo.accP l).1.length ((Mo.accP l).1.map Value.string) ∧ Sl w' 1 y (Mo.accP l).2.length ((Mo.accP l).2.map Value.string) ∧ Below w.heap.size w w' := by
  have HC := Lib.hid (c75 A cap l w hlen hcap hcap2 hsz H)
  obtain ⟨i0, hi, hz0, hz1, hz2⟩ := info_parts info9
  by_cases hE : Mo.results l = 0
  · have hP : Mo.accP l = (Mo.acc l, Mo.rej l) := by unfold Mo.accP; rw [if_neg (by simp [hE])]
    rw [hP]
    rw [hE] at HC ⊢
    simp only []
    clear hP hsz hE
    obtain ⟨n, hn⟩ : ∃ n, n = l.length := ⟨_, rfl⟩
    rw [← hn] at hlen HC ⊢
    have Hn := Lib.hid hn
    clear hn hcap hcap2
    go_enter Tryz.func69, Tryz.ntmps69
    go_wp2_with fail
    refine HC.out.mono ?_
    rintro e w0 ⟨rfl, hb0⟩
    clear HC
    go_wp2
    go_loopw [6, 7, 17] (fun x y i wr => ∃ k : Nat, k ≤ n ∧ i = .int .i64 k ∧ wr.ownsRow w.heap.size 9 1 x (Mo.acc (l.take k)).length ((Mo.acc (l.take k)).map Value.string) ∧ wr.ownsRow w.heap.size 9 1 y (Mo.rej (l.take k)).length ((Mo.rej (l.take k)).map Value.string) ∧ Apart x y ∧ Below w.heap.size w wr) (fun _ _ i _ => n - (intOf i).toNat)
    case atStart => exact ⟨0, Nat.zero_le _, rfl, World.ownsRow_nil _ _ _ _, World.ownsRow_nil _ _ _ _, fun g h => by simp [Value.ownBlock] at h, hb0⟩
    case round =>
      clear hb0
      obtain ⟨k, hk, rfl, hx0, hy0, hap, hB⟩ := hrel
      by_cases hlt : k < n
      · obtain ⟨b, off, s, rfl, hx, hb, hc⟩ := (H.below hB).at Res.len (by rw [← Hn.out]; exact hlt)
        have h0 : wr.cell? ⟨b, off + k * 3, none⟩ = some (.string s.n) := hc 0 (by omega)
        have h1 : wr.cell? ⟨b, off + k * 3 + 1, none⟩ = some (.int .i64 s.f) := hc 1 (by omega)
        have h2 : wr.cell? ⟨b, off + k * 3 + 2, none⟩ = some (.int .i64 s.w) := hc 2 (by omega)
        have hal := Mo.acc_len (l.take k)
        have hrl := Mo.rej_len (l.take k)
        have htl : (l.take k).length ≤ k := by rw [List.length_take]; omega
        have hyes := fun h => Mo.acc_yes hx h
        have hno := fun h => Mo.acc_no hx h
        obtain ⟨a, ha⟩ : ∃ a, a = Mo.acc (l.take k) := ⟨_, rfl⟩
        obtain ⟨r, hr⟩ : ∃ r, r = Mo.rej (l.take k) := ⟨_, rfl⟩
        rw [← ha] at hx0 hal hyes hno
        rw [← hr] at hy0 hrl hyes hno
        clear hc hx ha hr
        have hacc := fun W => Lib.hid (c126 s.n s.f s.w W)
        obtain ⟨W1, hW1⟩ : ∃ W1, W1 = wr.alloc (Obj.cells #[.string s.n, .int .i64 s.f, .int .i64 s.w] 210) := ⟨_, rfl⟩
        obtain ⟨bx, hbx⟩ : ∃ bx, bx = wr.heap.size := ⟨_, rfl⟩
        have hBr : Below wr.heap.size wr W1 := by rw [hW1]; exact (Below.refl _ _).alloc (Nat.le_refl _) _
        have hxW := own_below hx0 hBr
        have hyW := own_below hy0 hBr
        have hBW := hB.call hBr rfl
        have hT : W1.heap[bx]? = some (Obj.cells #[.string s.n, .int .i64 s.f, .int .i64 s.w] 210) := by rw [hW1, hbx]; exact heap_new (by simp)
        have a0 : W1.cell? ⟨bx, 0, none⟩ = some (.string s.n) := cell_at hT rfl
        have a1 : W1.cell? ⟨bx, 1, none⟩ = some (.int .i64 s.f) := cell_at hT rfl
        have a2 : W1.cell? ⟨bx, 2, none⟩ = some (.int .i64 s.w) := cell_at hT rfl
        have hbW : bx < W1.heap.size := (Array.getElem?_eq_some_iff.1 hT).1
        clear hx0 hy0 hBr hT hB
        by_cases hcmp : s.w ≤ s.f
        · have HYN := Lib.hid (hyes hcmp)
          simp only [hcmp, decide_true] at hacc
          clear hyes hno
          go_wp2_with fail
          rw [← hW1, ← hbx]
          clear hW1 hbx
          refine (hacc _).out.mono ?_
          rintro e w1 ⟨rfl, hb1⟩
          have hB1 := fin0 hBW hb1
          have hx1 := own_below hxW hb1
          have hy1 := own_below hyW hb1
          have p0 := (hb1.cell (p := ⟨bx, _, none⟩) hbW).trans a0
          have hbw : bx < w1.heap.size := Nat.lt_of_lt_of_le hbW hb1.size
          have hsz1 := hB1.size
          clear hxW hyW a0 a1 a2 hb1
          go_wp2_with (at_builtin; refine wpList_append_lies _ rfl _ _ 88 rfl w.heap.size 9 i0 (.string ByteArray.empty) 1 16 Tryz.underlying88 hi hz0 hz1 hz2 rfl (by decide) _ _ _ rfl (hx1.alloc _) ⟨w1.heap.size, 0, none⟩ 1 1 [.string s.n] rfl rfl (news_one _ _ (by simp)) (by intro x hx; simp at hx; first | (subst hx; rfl) | (rcases hx with rfl | rfl <;> rfl) | (rcases hx with rfl | rfl | rfl <;> rfl)) (by omega) (by unfold maxLen; omega) (by omega) (by simp; omega) _ rfl ?_)
          intro g' cap' w3 hown3 hg3 hat3 hlt3
          have hB3 : Below w.heap.size w w3 := (hB1.alloc hB1.size _).grown hg3 (by simp; omega) (fun g hg => by have := (hx1.lt g hg).1; omega)
          have hoth3 := own_apart (hy1.alloc _) hg3 hap
          have hapn : Apart (.slice (some ⟨g', 0, none⟩) (a.length + 1) cap') u7 := fun g hgg hzz => by
            have e : g' = g := by simpa [Value.ownBlock] using hgg
            rcases hat3 with h | h
            · exact hap g' h (by rw [e]; exact hzz)
            · have := (hy1.lt g hzz).2
              try simp at h
              omega
          have hlist : (a.map Value.string) ++ [.string s.n] = (a ++ [s.n]).map Value.string := by simp
          rw [hlist] at hown3
          have hlen1 : a.length + 1 = (a ++ [s.n]).length := by simp
          have HO : Hid (w3.ownsRow w.heap.size 9 1 (.slice (some ⟨g', 0, none⟩) (a.length + 1) cap') (a ++ [s.n]).length ((a ++ [s.n]).map Value.string)) := by show World.ownsRow _ _ _ _ _ _ _; rw [← hlen1]; exact hown3
          have HO2 := Lib.hid hoth3
          clear hown3 hg3 hoth3 hat3 hlist hlen1 hx1 hy1
          go_wp2
          go_roundw
          case rel => exact ⟨k + 1, by omega, by go_num, by rw [HYN.out.1]; exact HO.out, by rw [HYN.out.2]; exact HO2.out, hapn, hB3⟩
          case measure => simp [intOf]; omega
        · have HYN := Lib.hid (hno hcmp)
          simp only [hcmp, decide_false] at hacc
          clear hyes hno
          go_wp2_with fail
          rw [← hW1, ← hbx]
          clear hW1 hbx
          refine (hacc _).out.mono ?_
          rintro e w1 ⟨rfl, hb1⟩
          have hB1 := fin0 hBW hb1
          have hx1 := own_below hxW hb1
          have hy1 := own_below hyW hb1
          have p0 := (hb1.cell (p := ⟨bx, _, none⟩) hbW).trans a0
          have hbw : bx < w1.heap.size := Nat.lt_of_lt_of_le hbW hb1.size
          have hsz1 := hB1.size
          clear hxW hyW a0 a1 a2 hb1
          go_wp2_with (at_builtin; refine wpList_append_lies _ rfl _ _ 88 rfl w.heap.size 9 i0 (.string ByteArray.empty) 1 16 Tryz.underlying88 hi hz0 hz1 hz2 rfl (by decide) _ _ _ rfl (hy1.alloc _) ⟨w1.heap.size, 0, none⟩ 1 1 [.string s.n] rfl rfl (news_one _ _ (by simp)) (by intro x hx; simp at hx; first | (subst hx; rfl) | (rcases hx with rfl | rfl <;> rfl) | (rcases hx with rfl | rfl | rfl <;> rfl)) (by omega) (by unfold maxLen; omega) (by omega) (by simp; omega) _ rfl ?_)
          intro g' cap' w3 hown3 hg3 hat3 hlt3
          have hB3 : Below w.heap.size w w3 := (hB1.alloc hB1.size _).grown hg3 (by simp; omega) (fun g hg => by have := (hy1.lt g hg).1; omega)
          have hoth3 := own_apart (hx1.alloc _) hg3 hap.symm
          have hapn : Apart (.slice (some ⟨g', 0, none⟩) (r.length + 1) cap') u6 := fun g hgg hzz => by
            have e : g' = g := by simpa [Value.ownBlock] using hgg
            rcases hat3 with h | h
            · exact hap.symm g' h (by rw [e]; exact hzz)
            · have := (hx1.lt g hzz).2
              try simp at h
              omega
          have hlist : (r.map Value.string) ++ [.string s.n] = (r ++ [s.n]).map Value.string := by simp
          rw [hlist] at hown3
          have hlen1 : r.length + 1 = (r ++ [s.n]).length := by simp
          have HO : Hid (w3.ownsRow w.heap.size 9 1 (.slice (some ⟨g', 0, none⟩) (r.length + 1) cap') (r ++ [s.n]).length ((r ++ [s.n]).map Value.string)) := by show World.ownsRow _ _ _ _ _ _ _; rw [← hlen1]; exact hown3
          have HO2 := Lib.hid hoth3
          clear hown3 hg3 hoth3 hat3 hlist hlen1 hx1 hy1
          go_wp2
          go_roundw
          case rel => exact ⟨k + 1, by omega, by go_num, by rw [HYN.out.1]; exact HO2.out, by rw [HYN.out.2]; exact HO.out, hapn.symm, hB3⟩
          case measure => simp [intOf]; omega
      · obtain rfl : k = n := by omega
        have hta : l.take k = l := by rw [Hn.out, List.take_length]
        rw [hta] at hx0 hy0
        have HX := Lib.hid (Sl.of_own hx0)
        have HY := Lib.hid (Sl.of_own hy0)
        clear hx0 hy0 hta
        go_wp2
        go_ret3
        exact ⟨_, _, rfl, HX.out, HY.out, hB⟩
  · have hP : Mo.accP l = ([], []) := by unfold Mo.accP; rw [if_pos hE]
    rw [hP]
    obtain ⟨n, hn⟩ : ∃ n, n = l.length := ⟨_, rfl⟩
    rw [← hn] at HC ⊢
    obtain ⟨E, hEe⟩ : ∃ E, E = Mo.results l := ⟨_, rfl⟩
    rw [← hEe] at hE HC ⊢
    have hE' : (E != 0) = true := by simpa using hE
    clear hP hn hEe hE H hsz
    go_enter Tryz.func69, Tryz.ntmps69
    go_wp2_with fail
    refine HC.out.mono ?_
    rintro e w0 ⟨rfl, hb0⟩
    go_wp2
    go_ret3
    exact ⟨_, _, rfl, ⟨none, 0, rfl, rfl, fun h => absurd h (by simp)⟩, ⟨none, 0, rfl, rfl, fun h => absurd h (by simp)⟩, hb0⟩

end Go.Proofs.YtndhjkammoeikaaGreatDoor
namespace Go.Proofs.YtndhjkammoeikaaGreatDoor
open Go.RowKit
/-- an invoice -/
structure Inv where
  c : Nat → Int
  lines : Int
  total : Int
def Inv.arr (v : Inv) : Array Value := #[.int .i64 (v.c 0), .int .i64 (v.c 1), .int .i64 (v.c 2), .int .i64 (v.c 3), .int .i64 (v.c 4), .int .i64 (v.c 5), .int .i64 v.lines, .int .i64 v.total]
theorem Inv.get (v : Inv) (k : Nat) (h : k < 6) : v.arr[k]? = some (.int .i64 (v.c k)) := by
  match k, h with
  | 0, _ => rfl
  | 1, _ => rfl
  | 2, _ => rfl
  | 3, _ => rfl
  | 4, _ => rfl
  | 5, _ => rfl
theorem Inv.setc (v : Inv) (k : Nat) (h : k < 6) (z : Int) : v.arr.setIfInBounds k (.int .i64 z) = (Inv.mk (fun i => if i = k then z else v.c i) v.lines v.total).arr := by
  match k, h with
  | 0, _ => rfl
  | 1, _ => rfl
  | 2, _ => rfl
  | 3, _ => rfl
  | 4, _ => rfl
  | 5, _ => rfl
theorem Inv.setl (v : Inv) (z : Int) : v.arr.setIfInBounds 6 (.int .i64 z) = (Inv.mk v.c z v.total).arr := rfl
theorem Inv.sett (v : Inv) (z : Int) : v.arr.setIfInBounds 7 (.int .i64 z) = (Inv.mk v.c v.lines z).arr := rfl
namespace Mo
def linesS : ByteArray := ⟨#[108, 105, 110, 101, 115]⟩
def totalS : ByteArray := ⟨#[116, 111, 116, 97, 108]⟩
def dC (a b : Inv) : Nat → List ByteArray
  | 0 => []
  | k+1 => if a.c k = b.c k then dC a b k else dC a b k ++ [cs k]
def diffs (a b : Inv) : List ByteArray := dC a b 6 ++ (if a.lines = b.lines then [] else [linesS]) ++ (if a.total = b.total then [] else [totalS])
theorem dC_len (a b : Inv) (k : Nat) : (dC a b k).length ≤ k := by
  induction k with
  | zero => exact Nat.le_refl 0
  | succ k ih =>
    unfold dC
    split
    · omega
    · rw [List.length_append, List.length_singleton]; omega
end Mo
end Go.Proofs.YtndhjkammoeikaaGreatDoor
namespace Go.Proofs.YtndhjkammoeikaaGreatDoor
open Go.RowKit
set_option maxHeartbeats 1000000
set_option maxRecDepth 20000

theorem c45 (a b : Inv) (w : World) : Calls Tryz.prog 45 #[.agg #[.int .i64 (a.c 0), .int .i64 (a.c 1), .int .i64 (a.c 2), .int .i64 (a.c 3), .int .i64 (a.c 4), .int .i64 (a.c 5), .int .i64 a.lines, .int .i64 a.total], .agg #[.int .i64 (b.c 0), .int .i64 (b.c 1), .int .i64 (b.c 2), .int .i64 (b.c 3), .int .i64 (b.c 4), .int .i64 (b.c 5), .int .i64 b.lines, .int .i64 b.total]] w fun en w' => ∃ x, en = .returned (.tuple #[x, .int .i64 0]) ∧ Sl w' 1 x (Mo.diffs a b).length ((Mo.diffs a b).map Value.string) ∧ Below w.heap.size w w' := by
  obtain ⟨i0, hi, hz0, hz1, hz2⟩ := info_parts info9
  have HD : Hid (Mo.diffs a b = Mo.dC a b 6 ++ (if a.lines = b.lines then [] else [Mo.linesS]) ++ (if a.total = b.total then [] else [Mo.totalS])) := rfl
  have HDs : ∀ k, Hid (Mo.dC a b (k + 1) = if a.c k = b.c k then Mo.dC a b k else Mo.dC a b k ++ [Mo.cs k]) := fun k => rfl
  have HL := fun k => Lib.hid (Mo.dC_len a b k)
  obtain ⟨D, hD⟩ : ∃ D, D = Mo.dC a b := ⟨_, rfl⟩
  have hD0 : Hid (D 0 = []) := by show _ = _; rw [hD]; rfl
  rw [← hD] at HD HDs HL
  clear hD
  obtain ⟨W, hW⟩ : ∃ W, W = (w.alloc (Obj.cells #[.int .i64 (a.c 0), .int .i64 (a.c 1), .int .i64 (a.c 2), .int .i64 (a.c 3), .int .i64 (a.c 4), .int .i64 (a.c 5), .int .i64 a.lines, .int .i64 a.total] 91)).alloc (Obj.cells #[.int .i64 (b.c 0), .int .i64 (b.c 1), .int .i64 (b.c 2), .int .i64 (b.c 3), .int .i64 (b.c 4), .int .i64 (b.c 5), .int .i64 b.lines, .int .i64 b.total] 91) := ⟨_, rfl⟩
  have hT0 : W.heap[w.heap.size]? = some (.cells #[.int .i64 (a.c 0), .int .i64 (a.c 1), .int .i64 (a.c 2), .int .i64 (a.c 3), .int .i64 (a.c 4), .int .i64 (a.c 5), .int .i64 a.lines, .int .i64 a.total] 91 (0, 0)) := by rw [hW]; exact heap_old (by simp <;> omega) (heap_new (by simp))
  have h0_0 : W.cell? ⟨w.heap.size, 0, none⟩ = some (.int .i64 (a.c 0)) := cell_at hT0 rfl
  have h0_1 : W.cell? ⟨w.heap.size, 1, none⟩ = some (.int .i64 (a.c 1)) := cell_at hT0 rfl
  have h0_2 : W.cell? ⟨w.heap.size, 2, none⟩ = some (.int .i64 (a.c 2)) := cell_at hT0 rfl
  have h0_3 : W.cell? ⟨w.heap.size, 3, none⟩ = some (.int .i64 (a.c 3)) := cell_at hT0 rfl
  have h0_4 : W.cell? ⟨w.heap.size, 4, none⟩ = some (.int .i64 (a.c 4)) := cell_at hT0 rfl
  have h0_5 : W.cell? ⟨w.heap.size, 5, none⟩ = some (.int .i64 (a.c 5)) := cell_at hT0 rfl
  have h0_6 : W.cell? ⟨w.heap.size, 6, none⟩ = some (.int .i64 a.lines) := cell_at hT0 rfl
  have h0_7 : W.cell? ⟨w.heap.size, 7, none⟩ = some (.int .i64 a.total) := cell_at hT0 rfl
  have hT1 : W.heap[w.heap.size + 1]? = some (.cells #[.int .i64 (b.c 0), .int .i64 (b.c 1), .int .i64 (b.c 2), .int .i64 (b.c 3), .int .i64 (b.c 4), .int .i64 (b.c 5), .int .i64 b.lines, .int .i64 b.total] 91 (0, 0)) := by rw [hW]; exact heap_new (by simp)
  have h1_0 : W.cell? ⟨w.heap.size + 1, 0, none⟩ = some (.int .i64 (b.c 0)) := cell_at hT1 rfl
  have h1_1 : W.cell? ⟨w.heap.size + 1, 1, none⟩ = some (.int .i64 (b.c 1)) := cell_at hT1 rfl
  have h1_2 : W.cell? ⟨w.heap.size + 1, 2, none⟩ = some (.int .i64 (b.c 2)) := cell_at hT1 rfl
  have h1_3 : W.cell? ⟨w.heap.size + 1, 3, none⟩ = some (.int .i64 (b.c 3)) := cell_at hT1 rfl
  have h1_4 : W.cell? ⟨w.heap.size + 1, 4, none⟩ = some (.int .i64 (b.c 4)) := cell_at hT1 rfl
  have h1_5 : W.cell? ⟨w.heap.size + 1, 5, none⟩ = some (.int .i64 (b.c 5)) := cell_at hT1 rfl
  have h1_6 : W.cell? ⟨w.heap.size + 1, 6, none⟩ = some (.int .i64 b.lines) := cell_at hT1 rfl
  have h1_7 : W.cell? ⟨w.heap.size + 1, 7, none⟩ = some (.int .i64 b.total) := cell_at hT1 rfl
  have hs : w.heap.size + 2 = W.heap.size := by rw [hW]; simp
  have hB : Below w.heap.size w W := by rw [hW]; exact (((Below.refl _ _).alloc (by first | omega | (simp <;> omega)) _).alloc (by first | omega | (simp <;> omega)) _)
  have hs0 : w.heap.size < W.heap.size := by omega
  have hs1 : w.heap.size + 1 < W.heap.size := by omega
  have HTa : Hid (W.heap[w.heap.size]? = some (.cells a.arr 91 (0, 0))) := hT0
  have HTb : Hid (W.heap[w.heap.size + 1]? = some (.cells b.arr 91 (0, 0))) := hT1
  clear hT0 hT1 hs h0_0 h0_1 h0_2 h0_3 h0_4 h0_5 h0_6 h0_7 h1_0 h1_1 h1_2 h1_3 h1_4 h1_5 h1_6 h1_7
  go_enter Tryz.func45, Tryz.ntmps45
  go_wp2_with fail
  rw [← hW]
  clear hW
  refine (c60 _).mono ?_
  rintro e w4 ⟨g, rfl, hg, hge, hb4⟩
  have hB4 := fin0 hB hb4
  have ta := (hb4.block _ hs0).trans HTa.out
  have tb := (hb4.block _ hs1).trans HTb.out
  have hgl : g < w4.heap.size := (Array.getElem?_eq_some_iff.1 hg).1
  have z0 : w.heap.size < w4.heap.size := Nat.lt_of_lt_of_le hs0 hb4.size
  have z1 : w.heap.size + 1 < w4.heap.size := Nat.lt_of_lt_of_le hs1 hb4.size
  have TA := Lib.hid ta
  have TB := Lib.hid tb
  have TG := Lib.hid hg
  clear hB hb4 ta tb hg HTa HTb hs0 hs1
  go_wp2
  go_loopw [6, 11] (fun x i wr => ∃ k : Nat, k ≤ 6 ∧ i = .int .i64 k ∧ wr.ownsRow w4.heap.size 9 1 x (D k).length ((D k).map Value.string) ∧ Below w4.heap.size w4 wr) (fun _ i _ => 6 - (intOf i).toNat)
  case atStart => exact ⟨0, Nat.zero_le _, rfl, by rw [hD0.out]; exact World.ownsRow_nil _ _ _ _, Below.refl _ _⟩
  case round =>
    obtain ⟨k, hk, rfl, hown, hB1⟩ := hrel
    have hlen := (HL k).out
    by_cases hlt : k < 6
    · obtain ⟨hk1, hk2, hk3⟩ := cs_get k hlt
      have pa : wr.cell? ⟨w.heap.size, k, none⟩ = some (.int .i64 (a.c k)) := ((bcell hB1).1 _ _ z0).trans (cell_at TA.out (a.get k hlt))
      have pb : wr.cell? ⟨w.heap.size + 1, k, none⟩ = some (.int .i64 (b.c k)) := ((bcell hB1).1 _ _ z1).trans (cell_at TB.out (b.get k hlt))
      have pg : wr.cell? ⟨g, k, none⟩ = some (.string (Mo.cs k)) := ((bcell hB1).1 _ _ hgl).trans (cell_at TG.out hk1)
      have y0 : w.heap.size < wr.heap.size := Nat.lt_of_lt_of_le z0 hB1.size
      have y1 : w.heap.size + 1 < wr.heap.size := Nat.lt_of_lt_of_le z1 hB1.size
      have y2 : g < wr.heap.size := Nat.lt_of_lt_of_le hgl hB1.size
      have hx1 : (0 : Int) ≤ (k : Int) := by omega
      have hx2 : (k : Int) < 6 := by omega
      have hds := HDs k
      obtain ⟨r, hr⟩ : ∃ r, r = D k := ⟨_, rfl⟩
      rw [← hr] at hown hlen hds
      clear hr hk1 hk2 hk3
      by_cases hc : a.c k = b.c k
      · have hq : (a.c k != b.c k) = false := by simp [hc]
        have HP : Hid (D (k + 1) = r) := by show _ = _; rw [hds.out, if_pos hc]
        clear hc hds
        go_wp2
        refine wp_region_growG (by kernel_rfl) (by kernel_rfl) ?_
        repeat (go_big_quiet_step ((first | fail)))
        refine wpQuiet_nil (gw_out ?_)
        intro w5 hb5
        have hB5 := fin0 hB1 hb5
        have hown5 := own_below hown hb5
        have HO := Lib.hid hown5
        clear hown hown5 hb5
        go_wp2
        go_roundw
        case rel => exact ⟨k + 1, by omega, by go_num, by rw [HP.out]; exact HO.out, hB5⟩
        case measure => simp [intOf]; omega
      · have hq : (a.c k != b.c k) = true := by simpa using hc
        have HP : Hid (D (k + 1) = r ++ [Mo.cs k]) := by show _ = _; rw [hds.out, if_neg hc]
        clear hc hds
        go_wp2
        refine wp_region_growG (by kernel_rfl) (by kernel_rfl) ?_
        repeat (go_big_quiet_step ((first | fail)))
        refine wpQuiet_nil (gw_out ?_)
        intro w5 hb5
        have hB5 := fin0 hB1 hb5
        have hown5 := own_below hown hb5
        have pg5 := ((bcell hb5).1 _ _ y2).trans pg
        have y5 : g < w5.heap.size := Nat.lt_of_lt_of_le y2 hb5.size
        have hsz5 := hB5.size
        clear hown hb5
        go_wp2_with (at_builtin; refine wpList_append_own _ rfl _ _ 88 rfl w4.heap.size 9 i0 (.string ByteArray.empty) 1 16 Tryz.underlying88 hi hz0 hz1 hz2 rfl (by decide) _ _ _ rfl (hown5.alloc _) ⟨w5.heap.size, 0, none⟩ 1 1 [.string (Mo.cs k)] rfl rfl (news_one _ _ rfl) (by intro x hx; simp at hx; first | (subst hx; rfl) | (rcases hx with rfl | rfl <;> rfl) | (rcases hx with rfl | rfl | rfl <;> rfl)) (by unfold maxLen; omega) (by omega) (by simp; omega) ?_)
        intro x' w3 hown3 hg3 _
        have hB3 : Below w4.heap.size w4 w3 := (hB5.alloc hsz5 _).grown hg3 (by simp; omega) (fun g hg => (hown5.lt g hg).1)
        have hlist : (r.map Value.string) ++ [.string (Mo.cs k)] = (r ++ [Mo.cs k]).map Value.string := by simp
        have hlen1 : r.length + 1 = (r ++ [Mo.cs k]).length := by simp
        rw [hlist, hlen1] at hown3
        have HO := Lib.hid hown3
        clear hown3 hg3 hown5 hlist hlen1
        go_wp2
        go_roundw
        case rel => exact ⟨k + 1, by omega, by go_num, by rw [HP.out]; exact HO.out, hB3⟩
        case measure => simp [intOf]; omega
    · obtain rfl : k = 6 := by omega
      have pa : wr.cell? ⟨w.heap.size, 6, none⟩ = some (.int .i64 a.lines) := ((bcell hB1).1 _ _ z0).trans (cell_at TA.out rfl)
      have pb : wr.cell? ⟨w.heap.size + 1, 6, none⟩ = some (.int .i64 b.lines) := ((bcell hB1).1 _ _ z1).trans (cell_at TB.out rfl)
      have qa : wr.cell? ⟨w.heap.size, 7, none⟩ = some (.int .i64 a.total) := ((bcell hB1).1 _ _ z0).trans (cell_at TA.out rfl)
      have qb : wr.cell? ⟨w.heap.size + 1, 7, none⟩ = some (.int .i64 b.total) := ((bcell hB1).1 _ _ z1).trans (cell_at TB.out rfl)
      have y0 : w.heap.size < wr.heap.size := Nat.lt_of_lt_of_le z0 hB1.size
      have y1 : w.heap.size + 1 < wr.heap.size := Nat.lt_of_lt_of_le z1 hB1.size
      have hsz1 := hB1.size
      obtain ⟨r, hr⟩ : ∃ r, r = D 6 := ⟨_, rfl⟩
      rw [← hr] at hown hlen HD
      clear hr HDs HL
      by_cases hL : a.lines = b.lines
      · by_cases hT : a.total = b.total
        · have HR : Hid (Mo.diffs a b = r) := by show _ = _; rw [HD.out, if_pos hL, if_pos hT]; try simp
          have q1 : (a.lines != b.lines) = false := by simp [hL]
          have q2 : (a.total != b.total) = false := by simp [hT]
          clear hL hT HD
          have HO : Hid (Sl wr 1 u6 (Mo.diffs a b).length ((Mo.diffs a b).map Value.string)) := by show Sl _ _ _ _ _; rw [HR.out]; exact Sl.of_own hown
          clear hown
          go_wp2
          go_ret2
          exact ⟨_, rfl, HO.out, fin0 hB4 hB1⟩
        · have HR : Hid (Mo.diffs a b = r ++ [Mo.totalS]) := by show _ = _; rw [HD.out, if_pos hL, if_neg hT]; try simp
          have q1 : (a.lines != b.lines) = false := by simp [hL]
          have q2 : (a.total != b.total) = true := by simp [hT]
          clear hL hT HD
          go_wp2_with (at_builtin; refine wpList_append_own _ rfl _ _ 88 rfl w4.heap.size 9 i0 (.string ByteArray.empty) 1 16 Tryz.underlying88 hi hz0 hz1 hz2 rfl (by decide) _ _ _ rfl (hown.alloc _) ⟨wr.heap.size, 0, none⟩ 1 1 [.string { data := #[116, 111, 116, 97, 108] }] rfl rfl (news_one _ _ rfl) (by intro x hx; simp at hx; first | (subst hx; rfl) | (rcases hx with rfl | rfl <;> rfl) | (rcases hx with rfl | rfl | rfl <;> rfl)) (by unfold maxLen; omega) (by omega) (by simp; omega) ?_)
          intro x7 w7 hown7 hg7 _
          have hB7 : Below w4.heap.size w4 w7 := (hB1.alloc hB1.size _).grown hg7 (by simp; omega) (fun g hg => (hown.lt g hg).1)
          have hlist : (r.map Value.string) ++ [.string { data := #[116, 111, 116, 97, 108] }] = (r ++ [Mo.totalS]).map Value.string := by first | (simp; done) | (simp; rfl)
          have hlen1 : r.length + 1 = (r ++ [Mo.totalS]).length := by simp
          rw [hlist, hlen1] at hown7
          have hsz7 := hB7.size
          have pa7 : w7.cell? ⟨w.heap.size, 7, none⟩ = some (.int .i64 a.total) := ((bcell hB7).1 _ _ z0).trans (cell_at TA.out rfl)
          have pb7 : w7.cell? ⟨w.heap.size + 1, 7, none⟩ = some (.int .i64 b.total) := ((bcell hB7).1 _ _ z1).trans (cell_at TB.out rfl)
          have hle7 : (r ++ [Mo.totalS]).length ≤ 8 := by rw [List.length_append, List.length_singleton]; omega
          obtain ⟨r7, hr7⟩ : ∃ r7, r7 = r ++ [Mo.totalS] := ⟨_, rfl⟩
          rw [← hr7] at hown7 hle7
          have HRr7 := Lib.hid hr7
          clear hr7 hlist hlen1 hg7 hown
          have HO : Hid (Sl w7 1 x7 (Mo.diffs a b).length ((Mo.diffs a b).map Value.string)) := by show Sl _ _ _ _ _; rw [HR.out, ← HRr7.out]; exact Sl.of_own hown7
          clear hown7
          go_wp2
          go_ret2
          exact ⟨_, rfl, HO.out, fin0 hB4 hB7⟩
      · by_cases hT : a.total = b.total
        · have HR : Hid (Mo.diffs a b = r ++ [Mo.linesS]) := by show _ = _; rw [HD.out, if_neg hL, if_pos hT]; try simp
          have q1 : (a.lines != b.lines) = true := by simp [hL]
          have q2 : (a.total != b.total) = false := by simp [hT]
          clear hL hT HD
          go_wp2_with (at_builtin; refine wpList_append_own _ rfl _ _ 88 rfl w4.heap.size 9 i0 (.string ByteArray.empty) 1 16 Tryz.underlying88 hi hz0 hz1 hz2 rfl (by decide) _ _ _ rfl (hown.alloc _) ⟨wr.heap.size, 0, none⟩ 1 1 [.string { data := #[108, 105, 110, 101, 115] }] rfl rfl (news_one _ _ rfl) (by intro x hx; simp at hx; first | (subst hx; rfl) | (rcases hx with rfl | rfl <;> rfl) | (rcases hx with rfl | rfl | rfl <;> rfl)) (by unfold maxLen; omega) (by omega) (by simp; omega) ?_)
          intro x6 w6 hown6 hg6 _
          have hB6 : Below w4.heap.size w4 w6 := (hB1.alloc hB1.size _).grown hg6 (by simp; omega) (fun g hg => (hown.lt g hg).1)
          have hlist : (r.map Value.string) ++ [.string { data := #[108, 105, 110, 101, 115] }] = (r ++ [Mo.linesS]).map Value.string := by first | (simp; done) | (simp; rfl)
          have hlen1 : r.length + 1 = (r ++ [Mo.linesS]).length := by simp
          rw [hlist, hlen1] at hown6
          have hsz6 := hB6.size
          have pa6 : w6.cell? ⟨w.heap.size, 7, none⟩ = some (.int .i64 a.total) := ((bcell hB6).1 _ _ z0).trans (cell_at TA.out rfl)
          have pb6 : w6.cell? ⟨w.heap.size + 1, 7, none⟩ = some (.int .i64 b.total) := ((bcell hB6).1 _ _ z1).trans (cell_at TB.out rfl)
          have hle6 : (r ++ [Mo.linesS]).length ≤ 7 := by rw [List.length_append, List.length_singleton]; omega
          obtain ⟨r6, hr6⟩ : ∃ r6, r6 = r ++ [Mo.linesS] := ⟨_, rfl⟩
          rw [← hr6] at hown6 hle6
          have HRr6 := Lib.hid hr6
          clear hr6 hlist hlen1 hg6 hown
          have HO : Hid (Sl w6 1 x6 (Mo.diffs a b).length ((Mo.diffs a b).map Value.string)) := by show Sl _ _ _ _ _; rw [HR.out, ← HRr6.out]; exact Sl.of_own hown6
          clear hown6
          go_wp2
          go_ret2
          exact ⟨_, rfl, HO.out, fin0 hB4 hB6⟩
        · have HR : Hid (Mo.diffs a b = r ++ [Mo.linesS] ++ [Mo.totalS]) := by show _ = _; rw [HD.out, if_neg hL, if_neg hT]; try simp
          have q1 : (a.lines != b.lines) = true := by simp [hL]
          have q2 : (a.total != b.total) = true := by simp [hT]
          clear hL hT HD
          go_wp2_with (at_builtin; refine wpList_append_own _ rfl _ _ 88 rfl w4.heap.size 9 i0 (.string ByteArray.empty) 1 16 Tryz.underlying88 hi hz0 hz1 hz2 rfl (by decide) _ _ _ rfl (hown.alloc _) ⟨wr.heap.size, 0, none⟩ 1 1 [.string { data := #[108, 105, 110, 101, 115] }] rfl rfl (news_one _ _ rfl) (by intro x hx; simp at hx; first | (subst hx; rfl) | (rcases hx with rfl | rfl <;> rfl) | (rcases hx with rfl | rfl | rfl <;> rfl)) (by unfold maxLen; omega) (by omega) (by simp; omega) ?_)
          intro x6 w6 hown6 hg6 _
          have hB6 : Below w4.heap.size w4 w6 := (hB1.alloc hB1.size _).grown hg6 (by simp; omega) (fun g hg => (hown.lt g hg).1)
          have hlist : (r.map Value.string) ++ [.string { data := #[108, 105, 110, 101, 115] }] = (r ++ [Mo.linesS]).map Value.string := by first | (simp; done) | (simp; rfl)
          have hlen1 : r.length + 1 = (r ++ [Mo.linesS]).length := by simp
          rw [hlist, hlen1] at hown6
          have hsz6 := hB6.size
          have pa6 : w6.cell? ⟨w.heap.size, 7, none⟩ = some (.int .i64 a.total) := ((bcell hB6).1 _ _ z0).trans (cell_at TA.out rfl)
          have pb6 : w6.cell? ⟨w.heap.size + 1, 7, none⟩ = some (.int .i64 b.total) := ((bcell hB6).1 _ _ z1).trans (cell_at TB.out rfl)
          have hle6 : (r ++ [Mo.linesS]).length ≤ 7 := by rw [List.length_append, List.length_singleton]; omega
          obtain ⟨r6, hr6⟩ : ∃ r6, r6 = r ++ [Mo.linesS] := ⟨_, rfl⟩
          rw [← hr6] at hown6 hle6
          have HRr6 := Lib.hid hr6
          clear hr6 hlist hlen1 hg6 hown
          go_wp2_with (at_builtin; refine wpList_append_own _ rfl _ _ 88 rfl w4.heap.size 9 i0 (.string ByteArray.empty) 1 16 Tryz.underlying88 hi hz0 hz1 hz2 rfl (by decide) _ _ _ rfl (hown6.alloc _) ⟨w6.heap.size, 0, none⟩ 1 1 [.string { data := #[116, 111, 116, 97, 108] }] rfl rfl (news_one _ _ rfl) (by intro x hx; simp at hx; first | (subst hx; rfl) | (rcases hx with rfl | rfl <;> rfl) | (rcases hx with rfl | rfl | rfl <;> rfl)) (by unfold maxLen; omega) (by omega) (by simp; omega) ?_)
          intro x7 w7 hown7 hg7 _
          have hB7 : Below w4.heap.size w4 w7 := (hB6.alloc hB6.size _).grown hg7 (by simp; omega) (fun g hg => (hown6.lt g hg).1)
          have hlist : (r6.map Value.string) ++ [.string { data := #[116, 111, 116, 97, 108] }] = (r6 ++ [Mo.totalS]).map Value.string := by first | (simp; done) | (simp; rfl)
          have hlen1 : r6.length + 1 = (r6 ++ [Mo.totalS]).length := by simp
          rw [hlist, hlen1] at hown7
          have hsz7 := hB7.size
          have pa7 : w7.cell? ⟨w.heap.size, 7, none⟩ = some (.int .i64 a.total) := ((bcell hB7).1 _ _ z0).trans (cell_at TA.out rfl)
          have pb7 : w7.cell? ⟨w.heap.size + 1, 7, none⟩ = some (.int .i64 b.total) := ((bcell hB7).1 _ _ z1).trans (cell_at TB.out rfl)
          have hle7 : (r6 ++ [Mo.totalS]).length ≤ 8 := by rw [List.length_append, List.length_singleton]; omega
          obtain ⟨r7, hr7⟩ : ∃ r7, r7 = r6 ++ [Mo.totalS] := ⟨_, rfl⟩
          rw [← hr7] at hown7 hle7
          have HRr7 := Lib.hid hr7
          clear hr7 hlist hlen1 hg7 hown6
          have HO : Hid (Sl w7 1 x7 (Mo.diffs a b).length ((Mo.diffs a b).map Value.string)) := by show Sl _ _ _ _ _; rw [HR.out, ← HRr6.out, ← HRr7.out]; exact Sl.of_own hown7
          clear hown7
          go_wp2
          go_ret2
          exact ⟨_, rfl, HO.out, fin0 hB4 hB7⟩

theorem c47 (a b : Inv) (w : World) : Calls Tryz.prog 47 #[.agg #[.int .i64 (a.c 0), .int .i64 (a.c 1), .int .i64 (a.c 2), .int .i64 (a.c 3), .int .i64 (a.c 4), .int .i64 (a.c 5), .int .i64 a.lines, .int .i64 a.total], .agg #[.int .i64 (b.c 0), .int .i64 (b.c 1), .int .i64 (b.c 2), .int .i64 (b.c 3), .int .i64 (b.c 4), .int .i64 (b.c 5), .int .i64 b.lines, .int .i64 b.total]] w fun en w' => ∃ x, en = .returned x ∧ Sl w' 1 x (Mo.diffs a b).length ((Mo.diffs a b).map Value.string) ∧ Below w.heap.size w w' := by
  obtain ⟨i0, hi, hz0, hz1, hz2⟩ := info_parts info9
  have HD : Hid (Mo.diffs a b = Mo.dC a b 6 ++ (if a.lines = b.lines then [] else [Mo.linesS]) ++ (if a.total = b.total then [] else [Mo.totalS])) := rfl
  have HDs : ∀ k, Hid (Mo.dC a b (k + 1) = if a.c k = b.c k then Mo.dC a b k else Mo.dC a b k ++ [Mo.cs k]) := fun k => rfl
  have HL := fun k => Lib.hid (Mo.dC_len a b k)
  obtain ⟨D, hD⟩ : ∃ D, D = Mo.dC a b := ⟨_, rfl⟩
  have hD0 : Hid (D 0 = []) := by show _ = _; rw [hD]; rfl
  rw [← hD] at HD HDs HL
  clear hD
  obtain ⟨W, hW⟩ : ∃ W, W = (w.alloc (Obj.cells #[.int .i64 (a.c 0), .int .i64 (a.c 1), .int .i64 (a.c 2), .int .i64 (a.c 3), .int .i64 (a.c 4), .int .i64 (a.c 5), .int .i64 a.lines, .int .i64 a.total] 87)).alloc (Obj.cells #[.int .i64 (b.c 0), .int .i64 (b.c 1), .int .i64 (b.c 2), .int .i64 (b.c 3), .int .i64 (b.c 4), .int .i64 (b.c 5), .int .i64 b.lines, .int .i64 b.total] 87) := ⟨_, rfl⟩
  have hT0 : W.heap[w.heap.size]? = some (.cells #[.int .i64 (a.c 0), .int .i64 (a.c 1), .int .i64 (a.c 2), .int .i64 (a.c 3), .int .i64 (a.c 4), .int .i64 (a.c 5), .int .i64 a.lines, .int .i64 a.total] 87 (0, 0)) := by rw [hW]; exact heap_old (by simp <;> omega) (heap_new (by simp))
  have h0_0 : W.cell? ⟨w.heap.size, 0, none⟩ = some (.int .i64 (a.c 0)) := cell_at hT0 rfl
  have h0_1 : W.cell? ⟨w.heap.size, 1, none⟩ = some (.int .i64 (a.c 1)) := cell_at hT0 rfl
  have h0_2 : W.cell? ⟨w.heap.size, 2, none⟩ = some (.int .i64 (a.c 2)) := cell_at hT0 rfl
  have h0_3 : W.cell? ⟨w.heap.size, 3, none⟩ = some (.int .i64 (a.c 3)) := cell_at hT0 rfl
  have h0_4 : W.cell? ⟨w.heap.size, 4, none⟩ = some (.int .i64 (a.c 4)) := cell_at hT0 rfl
  have h0_5 : W.cell? ⟨w.heap.size, 5, none⟩ = some (.int .i64 (a.c 5)) := cell_at hT0 rfl
  have h0_6 : W.cell? ⟨w.heap.size, 6, none⟩ = some (.int .i64 a.lines) := cell_at hT0 rfl
  have h0_7 : W.cell? ⟨w.heap.size, 7, none⟩ = some (.int .i64 a.total) := cell_at hT0 rfl
  have hT1 : W.heap[w.heap.size + 1]? = some (.cells #[.int .i64 (b.c 0), .int .i64 (b.c 1), .int .i64 (b.c 2), .int .i64 (b.c 3), .int .i64 (b.c 4), .int .i64 (b.c 5), .int .i64 b.lines, .int .i64 b.total] 87 (0, 0)) := by rw [hW]; exact heap_new (by simp)
  have h1_0 : W.cell? ⟨w.heap.size + 1, 0, none⟩ = some (.int .i64 (b.c 0)) := cell_at hT1 rfl
  have h1_1 : W.cell? ⟨w.heap.size + 1, 1, none⟩ = some (.int .i64 (b.c 1)) := cell_at hT1 rfl
  have h1_2 : W.cell? ⟨w.heap.size + 1, 2, none⟩ = some (.int .i64 (b.c 2)) := cell_at hT1 rfl
  have h1_3 : W.cell? ⟨w.heap.size + 1, 3, none⟩ = some (.int .i64 (b.c 3)) := cell_at hT1 rfl
  have h1_4 : W.cell? ⟨w.heap.size + 1, 4, none⟩ = some (.int .i64 (b.c 4)) := cell_at hT1 rfl
  have h1_5 : W.cell? ⟨w.heap.size + 1, 5, none⟩ = some (.int .i64 (b.c 5)) := cell_at hT1 rfl
  have h1_6 : W.cell? ⟨w.heap.size + 1, 6, none⟩ = some (.int .i64 b.lines) := cell_at hT1 rfl
  have h1_7 : W.cell? ⟨w.heap.size + 1, 7, none⟩ = some (.int .i64 b.total) := cell_at hT1 rfl
  have hs : w.heap.size + 2 = W.heap.size := by rw [hW]; simp
  have hB : Below w.heap.size w W := by rw [hW]; exact (((Below.refl _ _).alloc (by first | omega | (simp <;> omega)) _).alloc (by first | omega | (simp <;> omega)) _)
  have hs0 : w.heap.size < W.heap.size := by omega
  have hs1 : w.heap.size + 1 < W.heap.size := by omega
  have HTa : Hid (W.heap[w.heap.size]? = some (.cells a.arr 87 (0, 0))) := hT0
  have HTb : Hid (W.heap[w.heap.size + 1]? = some (.cells b.arr 87 (0, 0))) := hT1
  clear hT0 hT1 hs h0_0 h0_1 h0_2 h0_3 h0_4 h0_5 h0_6 h0_7 h1_0 h1_1 h1_2 h1_3 h1_4 h1_5 h1_6 h1_7
  go_enter Tryz.func47, Tryz.ntmps47
  go_wp2_with fail
  rw [← hW]
  clear hW
  refine (c61 _).mono ?_
  rintro e w4 ⟨g, rfl, hg, hge, hb4⟩
  have hB4 := fin0 hB hb4
  have ta := (hb4.block _ hs0).trans HTa.out
  have tb := (hb4.block _ hs1).trans HTb.out
  have hgl : g < w4.heap.size := (Array.getElem?_eq_some_iff.1 hg).1
  have z0 : w.heap.size < w4.heap.size := Nat.lt_of_lt_of_le hs0 hb4.size
  have z1 : w.heap.size + 1 < w4.heap.size := Nat.lt_of_lt_of_le hs1 hb4.size
  have TA := Lib.hid ta
  have TB := Lib.hid tb
  have TG := Lib.hid hg
  clear hB hb4 ta tb hg HTa HTb hs0 hs1
  go_wp2
  go_loopw [5, 7] (fun x i wr => ∃ k : Nat, k ≤ 6 ∧ i = .int .i64 k ∧ wr.ownsRow w4.heap.size 9 1 x (D k).length ((D k).map Value.string) ∧ Below w4.heap.size w4 wr) (fun _ i _ => 6 - (intOf i).toNat)
  case atStart => exact ⟨0, Nat.zero_le _, rfl, by rw [hD0.out]; exact World.ownsRow_nil _ _ _ _, Below.refl _ _⟩
  case round =>
    obtain ⟨k, hk, rfl, hown, hB1⟩ := hrel
    have hlen := (HL k).out
    by_cases hlt : k < 6
    · obtain ⟨hk1, hk2, hk3⟩ := cs_get k hlt
      have pa : wr.cell? ⟨w.heap.size, k, none⟩ = some (.int .i64 (a.c k)) := ((bcell hB1).1 _ _ z0).trans (cell_at TA.out (a.get k hlt))
      have pb : wr.cell? ⟨w.heap.size + 1, k, none⟩ = some (.int .i64 (b.c k)) := ((bcell hB1).1 _ _ z1).trans (cell_at TB.out (b.get k hlt))
      have pg : wr.cell? ⟨g, k, none⟩ = some (.string (Mo.cs k)) := ((bcell hB1).1 _ _ hgl).trans (cell_at TG.out hk1)
      have y0 : w.heap.size < wr.heap.size := Nat.lt_of_lt_of_le z0 hB1.size
      have y1 : w.heap.size + 1 < wr.heap.size := Nat.lt_of_lt_of_le z1 hB1.size
      have y2 : g < wr.heap.size := Nat.lt_of_lt_of_le hgl hB1.size
      have hx1 : (0 : Int) ≤ (k : Int) := by omega
      have hx2 : (k : Int) < 6 := by omega
      have hds := HDs k
      obtain ⟨r, hr⟩ : ∃ r, r = D k := ⟨_, rfl⟩
      rw [← hr] at hown hlen hds
      clear hr hk1 hk2 hk3
      by_cases hc : a.c k = b.c k
      · have hq : (a.c k != b.c k) = false := by simp [hc]
        have HP : Hid (D (k + 1) = r) := by show _ = _; rw [hds.out, if_pos hc]
        clear hc hds
        go_wp2
        refine wp_region_growG (by kernel_rfl) (by kernel_rfl) ?_
        repeat (go_big_quiet_step ((first | fail)))
        refine wpQuiet_nil (gw_out ?_)
        intro w5 hb5
        have hB5 := fin0 hB1 hb5
        have hown5 := own_below hown hb5
        have HO := Lib.hid hown5
        clear hown hown5 hb5
        go_wp2
        go_roundw
        case rel => exact ⟨k + 1, by omega, by go_num, by rw [HP.out]; exact HO.out, hB5⟩
        case measure => simp [intOf]; omega
      · have hq : (a.c k != b.c k) = true := by simpa using hc
        have HP : Hid (D (k + 1) = r ++ [Mo.cs k]) := by show _ = _; rw [hds.out, if_neg hc]
        clear hc hds
        go_wp2
        refine wp_region_growG (by kernel_rfl) (by kernel_rfl) ?_
        repeat (go_big_quiet_step ((first | fail)))
        refine wpQuiet_nil (gw_out ?_)
        intro w5 hb5
        have hB5 := fin0 hB1 hb5
        have hown5 := own_below hown hb5
        have pg5 := ((bcell hb5).1 _ _ y2).trans pg
        have y5 : g < w5.heap.size := Nat.lt_of_lt_of_le y2 hb5.size
        have hsz5 := hB5.size
        clear hown hb5
        go_wp2_with (at_builtin; refine wpList_append_own _ rfl _ _ 88 rfl w4.heap.size 9 i0 (.string ByteArray.empty) 1 16 Tryz.underlying88 hi hz0 hz1 hz2 rfl (by decide) _ _ _ rfl (hown5.alloc _) ⟨w5.heap.size, 0, none⟩ 1 1 [.string (Mo.cs k)] rfl rfl (news_one _ _ rfl) (by intro x hx; simp at hx; first | (subst hx; rfl) | (rcases hx with rfl | rfl <;> rfl) | (rcases hx with rfl | rfl | rfl <;> rfl)) (by unfold maxLen; omega) (by omega) (by simp; omega) ?_)
        intro x' w3 hown3 hg3 _
        have hB3 : Below w4.heap.size w4 w3 := (hB5.alloc hsz5 _).grown hg3 (by simp; omega) (fun g hg => (hown5.lt g hg).1)
        have hlist : (r.map Value.string) ++ [.string (Mo.cs k)] = (r ++ [Mo.cs k]).map Value.string := by simp
        have hlen1 : r.length + 1 = (r ++ [Mo.cs k]).length := by simp
        rw [hlist, hlen1] at hown3
        have HO := Lib.hid hown3
        clear hown3 hg3 hown5 hlist hlen1
        go_wp2
        go_roundw
        case rel => exact ⟨k + 1, by omega, by go_num, by rw [HP.out]; exact HO.out, hB3⟩
        case measure => simp [intOf]; omega
    · obtain rfl : k = 6 := by omega
      have pa : wr.cell? ⟨w.heap.size, 6, none⟩ = some (.int .i64 a.lines) := ((bcell hB1).1 _ _ z0).trans (cell_at TA.out rfl)
      have pb : wr.cell? ⟨w.heap.size + 1, 6, none⟩ = some (.int .i64 b.lines) := ((bcell hB1).1 _ _ z1).trans (cell_at TB.out rfl)
      have qa : wr.cell? ⟨w.heap.size, 7, none⟩ = some (.int .i64 a.total) := ((bcell hB1).1 _ _ z0).trans (cell_at TA.out rfl)
      have qb : wr.cell? ⟨w.heap.size + 1, 7, none⟩ = some (.int .i64 b.total) := ((bcell hB1).1 _ _ z1).trans (cell_at TB.out rfl)
      have y0 : w.heap.size < wr.heap.size := Nat.lt_of_lt_of_le z0 hB1.size
      have y1 : w.heap.size + 1 < wr.heap.size := Nat.lt_of_lt_of_le z1 hB1.size
      have hsz1 := hB1.size
      obtain ⟨r, hr⟩ : ∃ r, r = D 6 := ⟨_, rfl⟩
      rw [← hr] at hown hlen HD
      clear hr HDs HL
      by_cases hL : a.lines = b.lines
      · by_cases hT : a.total = b.total
        · have HR : Hid (Mo.diffs a b = r) := by show _ = _; rw [HD.out, if_pos hL, if_pos hT]; try simp
          have q1 : (a.lines != b.lines) = false := by simp [hL]
          have q2 : (a.total != b.total) = false := by simp [hT]
          clear hL hT HD
          have HO : Hid (Sl wr 1 u5 (Mo.diffs a b).length ((Mo.diffs a b).map Value.string)) := by show Sl _ _ _ _ _; rw [HR.out]; exact Sl.of_own hown
          clear hown
          go_wp2
          go_ret
          exact ⟨_, rfl, HO.out, fin0 hB4 hB1⟩
        · have HR : Hid (Mo.diffs a b = r ++ [Mo.totalS]) := by show _ = _; rw [HD.out, if_pos hL, if_neg hT]; try simp
          have q1 : (a.lines != b.lines) = false := by simp [hL]
          have q2 : (a.total != b.total) = true := by simp [hT]
          clear hL hT HD
          go_wp2_with (at_builtin; refine wpList_append_own _ rfl _ _ 88 rfl w4.heap.size 9 i0 (.string ByteArray.empty) 1 16 Tryz.underlying88 hi hz0 hz1 hz2 rfl (by decide) _ _ _ rfl (hown.alloc _) ⟨wr.heap.size, 0, none⟩ 1 1 [.string { data := #[116, 111, 116, 97, 108] }] rfl rfl (news_one _ _ rfl) (by intro x hx; simp at hx; first | (subst hx; rfl) | (rcases hx with rfl | rfl <;> rfl) | (rcases hx with rfl | rfl | rfl <;> rfl)) (by unfold maxLen; omega) (by omega) (by simp; omega) ?_)
          intro x7 w7 hown7 hg7 _
          have hB7 : Below w4.heap.size w4 w7 := (hB1.alloc hB1.size _).grown hg7 (by simp; omega) (fun g hg => (hown.lt g hg).1)
          have hlist : (r.map Value.string) ++ [.string { data := #[116, 111, 116, 97, 108] }] = (r ++ [Mo.totalS]).map Value.string := by first | (simp; done) | (simp; rfl)
          have hlen1 : r.length + 1 = (r ++ [Mo.totalS]).length := by simp
          rw [hlist, hlen1] at hown7
          have hsz7 := hB7.size
          have pa7 : w7.cell? ⟨w.heap.size, 7, none⟩ = some (.int .i64 a.total) := ((bcell hB7).1 _ _ z0).trans (cell_at TA.out rfl)
          have pb7 : w7.cell? ⟨w.heap.size + 1, 7, none⟩ = some (.int .i64 b.total) := ((bcell hB7).1 _ _ z1).trans (cell_at TB.out rfl)
          have hle7 : (r ++ [Mo.totalS]).length ≤ 8 := by rw [List.length_append, List.length_singleton]; omega
          obtain ⟨r7, hr7⟩ : ∃ r7, r7 = r ++ [Mo.totalS] := ⟨_, rfl⟩
          rw [← hr7] at hown7 hle7
          have HRr7 := Lib.hid hr7
          clear hr7 hlist hlen1 hg7 hown
          have HO : Hid (Sl w7 1 x7 (Mo.diffs a b).length ((Mo.diffs a b).map Value.string)) := by show Sl _ _ _ _ _; rw [HR.out, ← HRr7.out]; exact Sl.of_own hown7
          clear hown7
          go_wp2
          go_ret
          exact ⟨_, rfl, HO.out, fin0 hB4 hB7⟩
      · by_cases hT : a.total = b.total
        · have HR : Hid (Mo.diffs a b = r ++ [Mo.linesS]) := by show _ = _; rw [HD.out, if_neg hL, if_pos hT]; try simp
          have q1 : (a.lines != b.lines) = true := by simp [hL]
          have q2 : (a.total != b.total) = false := by simp [hT]
          clear hL hT HD
          go_wp2_with (at_builtin; refine wpList_append_own _ rfl _ _ 88 rfl w4.heap.size 9 i0 (.string ByteArray.empty) 1 16 Tryz.underlying88 hi hz0 hz1 hz2 rfl (by decide) _ _ _ rfl (hown.alloc _) ⟨wr.heap.size, 0, none⟩ 1 1 [.string { data := #[108, 105, 110, 101, 115] }] rfl rfl (news_one _ _ rfl) (by intro x hx; simp at hx; first | (subst hx; rfl) | (rcases hx with rfl | rfl <;> rfl) | (rcases hx with rfl | rfl | rfl <;> rfl)) (by unfold maxLen; omega) (by omega) (by simp; omega) ?_)
          intro x6 w6 hown6 hg6 _
          have hB6 : Below w4.heap.size w4 w6 := (hB1.alloc hB1.size _).grown hg6 (by simp; omega) (fun g hg => (hown.lt g hg).1)
          have hlist : (r.map Value.string) ++ [.string { data := #[108, 105, 110, 101, 115] }] = (r ++ [Mo.linesS]).map Value.string := by first | (simp; done) | (simp; rfl)
          have hlen1 : r.length + 1 = (r ++ [Mo.linesS]).length := by simp
          rw [hlist, hlen1] at hown6
          have hsz6 := hB6.size
          have pa6 : w6.cell? ⟨w.heap.size, 7, none⟩ = some (.int .i64 a.total) := ((bcell hB6).1 _ _ z0).trans (cell_at TA.out rfl)
          have pb6 : w6.cell? ⟨w.heap.size + 1, 7, none⟩ = some (.int .i64 b.total) := ((bcell hB6).1 _ _ z1).trans (cell_at TB.out rfl)
          have hle6 : (r ++ [Mo.linesS]).length ≤ 7 := by rw [List.length_append, List.length_singleton]; omega
          obtain ⟨r6, hr6⟩ : ∃ r6, r6 = r ++ [Mo.linesS] := ⟨_, rfl⟩
          rw [← hr6] at hown6 hle6
          have HRr6 := Lib.hid hr6
          clear hr6 hlist hlen1 hg6 hown
          have HO : Hid (Sl w6 1 x6 (Mo.diffs a b).length ((Mo.diffs a b).map Value.string)) := by show Sl _ _ _ _ _; rw [HR.out, ← HRr6.out]; exact Sl.of_own hown6
          clear hown6
          go_wp2
          go_ret
          exact ⟨_, rfl, HO.out, fin0 hB4 hB6⟩
        · have HR : Hid (Mo.diffs a b = r ++ [Mo.linesS] ++ [Mo.totalS]) := by show _ = _; rw [HD.out, if_neg hL, if_neg hT]; try simp
          have q1 : (a.lines != b.lines) = true := by simp [hL]
          have q2 : (a.total != b.total) = true := by simp [hT]
          clear hL hT HD
          go_wp2_with (at_builtin; refine wpList_append_own _ rfl _ _ 88 rfl w4.heap.size 9 i0 (.string ByteArray.empty) 1 16 Tryz.underlying88 hi hz0 hz1 hz2 rfl (by decide) _ _ _ rfl (hown.alloc _) ⟨wr.heap.size, 0, none⟩ 1 1 [.string { data := #[108, 105, 110, 101, 115] }] rfl rfl (news_one _ _ rfl) (by intro x hx; simp at hx; first | (subst hx; rfl) | (rcases hx with rfl | rfl <;> rfl) | (rcases hx with rfl | rfl | rfl <;> rfl)) (by unfold maxLen; omega) (by omega) (by simp; omega) ?_)
          intro x6 w6 hown6 hg6 _
          have hB6 : Below w4.heap.size w4 w6 := (hB1.alloc hB1.size _).grown hg6 (by simp; omega) (fun g hg => (hown.lt g hg).1)
          have hlist : (r.map Value.string) ++ [.string { data := #[108, 105, 110, 101, 115] }] = (r ++ [Mo.linesS]).map Value.string := by first | (simp; done) | (simp; rfl)
          have hlen1 : r.length + 1 = (r ++ [Mo.linesS]).length := by simp
          rw [hlist, hlen1] at hown6
          have hsz6 := hB6.size
          have pa6 : w6.cell? ⟨w.heap.size, 7, none⟩ = some (.int .i64 a.total) := ((bcell hB6).1 _ _ z0).trans (cell_at TA.out rfl)
          have pb6 : w6.cell? ⟨w.heap.size + 1, 7, none⟩ = some (.int .i64 b.total) := ((bcell hB6).1 _ _ z1).trans (cell_at TB.out rfl)
          have hle6 : (r ++ [Mo.linesS]).length ≤ 7 := by rw [List.length_append, List.length_singleton]; omega
          obtain ⟨r6, hr6⟩ : ∃ r6, r6 = r ++ [Mo.linesS] := ⟨_, rfl⟩
          rw [← hr6] at hown6 hle6
          have HRr6 := Lib.hid hr6
          clear hr6 hlist hlen1 hg6 hown
          go_wp2_with (at_builtin; refine wpList_append_own _ rfl _ _ 88 rfl w4.heap.size 9 i0 (.string ByteArray.empty) 1 16 Tryz.underlying88 hi hz0 hz1 hz2 rfl (by decide) _ _ _ rfl (hown6.alloc _) ⟨w6.heap.size, 0, none⟩ 1 1 [.string { data := #[116, 111, 116, 97, 108] }] rfl rfl (news_one _ _ rfl) (by intro x hx; simp at hx; first | (subst hx; rfl) | (rcases hx with rfl | rfl <;> rfl) | (rcases hx with rfl | rfl | rfl <;> rfl)) (by unfold maxLen; omega) (by omega) (by simp; omega) ?_)
          intro x7 w7 hown7 hg7 _
          have hB7 : Below w4.heap.size w4 w7 := (hB6.alloc hB6.size _).grown hg7 (by simp; omega) (fun g hg => (hown6.lt g hg).1)
          have hlist : (r6.map Value.string) ++ [.string { data := #[116, 111, 116, 97, 108] }] = (r6 ++ [Mo.totalS]).map Value.string := by first | (simp; done) | (simp; rfl)
          have hlen1 : r6.length + 1 = (r6 ++ [Mo.totalS]).length := by simp
          rw [hlist, hlen1] at hown7
          have hsz7 := hB7.size
          have pa7 : w7.cell? ⟨w.heap.size, 7, none⟩ = some (.int .i64 a.total) := ((bcell hB7).1 _ _ z0).trans (cell_at TA.out rfl)
          have pb7 : w7.cell? ⟨w.heap.size + 1, 7, none⟩ = some (.int .i64 b.total) := ((bcell hB7).1 _ _ z1).trans (cell_at TB.out rfl)
          have hle7 : (r6 ++ [Mo.totalS]).length ≤ 8 := by rw [List.length_append, List.length_singleton]; omega
          obtain ⟨r7, hr7⟩ : ∃ r7, r7 = r6 ++ [Mo.totalS] := ⟨_, rfl⟩
          rw [← hr7] at hown7 hle7
          have HRr7 := Lib.hid hr7
          clear hr7 hlist hlen1 hg7 hown6
          have HO : Hid (Sl w7 1 x7 (Mo.diffs a b).length ((Mo.diffs a b).map Value.string)) := by show Sl _ _ _ _ _; rw [HR.out, ← HRr6.out, ← HRr7.out]; exact Sl.of_own hown7
          clear hown7
          go_wp2
          go_ret
          exact ⟨_, rfl, HO.out, fin0 hB4 hB7⟩

end Go.Proofs.YtndhjkammoeikaaGreatDoor
