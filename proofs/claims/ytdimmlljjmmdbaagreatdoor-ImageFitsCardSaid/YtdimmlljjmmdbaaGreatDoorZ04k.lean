/- A part of the proofs about chapter 7 (image): contracts of functions and plain laws (V51, V52, V74, V54). -/
import Derived.Test.YtdimmlljjmmdbaaGreatDoorZ04f
import Derived.Test.YtdimmlljjmmdbaaGreatDoorZ04h
import Derived.Test.YtdimmlljjmmdbaaGreatDoorZ04j
set_option linter.all false
namespace Go.Proofs.YtdimmlljjmmdbaaGreatDoor
open Go.RowKit Go.Shelf
set_option maxHeartbeats 8000000
set_option maxRecDepth 100000
attribute [local go_sem] Oper.semAt_some
/-- a part of a slice -/
theorem RdI.seg {w : World} {b off n : Nat} {l : List Int} (h : RdI w (some ⟨b, off, none⟩) n l) (k m : Nat) (hk : k + m ≤ n) : RdI w (some ⟨b, off + k, none⟩) m ((l.drop k).take m) := by
 have hl := h.len
 refine ⟨by simp [encI]; omega, fun hm => ?_⟩
 obtain ⟨b', off', e, hb, hc⟩ := h.2 (by omega)
 cases e
 refine ⟨b, off + k, rfl, hb, fun j hj => ?_⟩
 have hj2 : j < m := Nat.lt_of_lt_of_le (show j < min m (l.length - k) by simpa [encI] using hj) (Nat.min_le_left _ _)
 have := hc (k + j) (by simp [encI]; omega)
 rw [show off + k + j = off + (k + j) by omega, this]
 simp [encI, hj2]
namespace Im
def rowK (c : Nat) (l : List Int) (k : Nat) : List Int := (l.drop (k * c)).take c
end Im
def prT (f : Int → ByteArray) (c : Nat) (l : List Int) (h : ByteArray) : Nat → ByteArray
 | 0 => h
 | k + 1 => prT f c l h k ++ lineB { data := #[114, 111, 119] } ((Im.rowK c l k).map f)
theorem lens_le (m : Nat) : ∀ (xs : List (List UInt8)), (∀ x ∈ xs, x.length ≤ m) → Lib.lens xs ≤ m * xs.length
 | [], _ => by simp [Lib.lens]
 | x :: xs, h => by
  have h1 := lens_le m xs (fun y hy => h y (List.mem_cons_of_mem _ hy))
  have h2 := h x (List.mem_cons_self ..)
  simp only [Lib.lens, List.map_cons, List.sum_cons, List.length_cons] at h1 ⊢
  rw [Nat.mul_add]; omega
theorem line_len (word : ByteArray) (f : Int → ByteArray) (l : List Int) (hw : word.size ≤ 20) (hl : l.length ≤ 1000) (hf : ∀ x ∈ l, (f x).size ≤ 20) : (Lib.join ((word :: l.map f).map (·.data.toList)) [32]).length ≤ 1000000 := by
 rw [List.map_cons, Lib.join_length]
 have := lens_le 20 (word.data.toList :: (l.map f).map (·.data.toList)) (fun x hx => by
  rcases List.mem_cons.1 hx with rfl | hx
  ·exact hw
  ·simp only [List.map_map, List.mem_map] at hx
   obtain ⟨y, hy, rfl⟩ := hx
   exact hf y hy)
 simp only [List.length_cons, List.length_map, List.length_nil] at this ⊢
 omega
theorem lineB_size (word : ByteArray) (xs : List ByteArray) : (lineB word xs).size = (Lib.join ((word :: xs).map (·.data.toList)) [32]).length + 1 := by
 unfold lineB
 rw [ByteArray.size_append]
 rfl
theorem prT_size (f : Int → ByteArray) (c : Nat) (l : List Int) (h : ByteArray) (hf : ∀ x ∈ l, (f x).size ≤ 20) (hc : c ≤ 1000) : ∀ k, (prT f c l h k).size ≤ h.size + k * 1000001
 | 0 => by simp [prT]
 | k + 1 => by
  have h1 := prT_size f c l h hf hc k
  have h2 := line_len { data := #[114, 111, 119] } f (Im.rowK c l k) (by decide) (by unfold Im.rowK; rw [List.length_take]; omega) (fun x hx => hf x (List.mem_of_mem_drop (List.mem_of_mem_take hx)))
  unfold prT
  rw [ByteArray.size_append, lineB_size]
  omega
theorem c81_ok (c r b off n cap : Nat) (l : List Int) (f : Int → ByteArray) (w : World) (g : Im.Gr c r l) (hc : c ≤ 16) (hr : r ≤ 16) (hcap : n ≤ cap) (hcm : cap ≤ 140737488355328) (H : RdI w (some ⟨b, off, none⟩) n l)
  (hcl : ∀ (W : World) (x : Int), x ∈ (c : Int) :: (r : Int) :: l → Calls Tryz.prog 162 #[.int .i64 x] W fun e w' => e = .returned (.string (f x)) ∧ w' = W) (hf : ∀ x ∈ (c : Int) :: (r : Int) :: l, (f x).size ≤ 20) :
  Calls Tryz.prog 81 #[.agg #[.int .i64 c, .int .i64 r, .slice (some ⟨b, off, none⟩) n cap]] w fun en w' => en = .returned (.tuple #[.string (prT f c l (lineB { data := #[103, 114, 111, 117, 110, 100] } [f c, f r]) r), .int .i64 0]) ∧ Below w.heap.size w w' := by
 have hln := H.len
 have hcl1 := g.c1
 have hlr := g.len
 have h256 : c * r ≤ 256 := Nat.mul_le_mul hc hr
 have hz := Mo.ground_of g hc hr
 obtain ⟨T0, hT00⟩ : ∃ T, T = lineB { data := #[103, 114, 111, 117, 110, 100] } [f c, f r] := ⟨_, rfl⟩
 rw [← hT00]
 have HT00 := Lib.hid hT00
 clear hT00
 refine (callsIn_wide (n := 6)).1 ?_
 refine callsIn_of_wp_marks Tryz.func81 rfl trivial ?_ rfl
 refine wpIn_wide.2 ?_
 simp only [Tryz.ntmps81, List.size_toArray, List.length_cons, List.length_nil, Nat.reduceAdd, Nat.reduceSub, Array.replicate_succ, Array.replicate_zero, List.push_toArray, List.append_toArray, List.nil_append, List.cons_append]
 obtain ⟨w0, hW⟩ : ∃ W, W = w.alloc (Obj.cells #[.int .i64 c, .int .i64 r, .slice (some ⟨b, off, none⟩) n cap] 35) := ⟨_, rfl⟩
 have hT0 : w0.heap[w.heap.size]? = some (.cells #[.int .i64 c, .int .i64 r, .slice (some ⟨b, off, none⟩) n cap] 35 (0, 0)) := by rw [hW]; exact heap_new (by simp)
 have hB0 : Below w.heap.size w w0 := by rw [hW]; exact (Below.refl _ _).alloc (Nat.le_refl _) _
 have H0 := H.below hB0
 have HCL := Lib.hid hcl
 have HF := Lib.hid hf
 have HG := Lib.hid hlr
 have HLN := Lib.hid hln
 have HRD := Lib.hid H
 clear hcl hf hlr H hln
 go_wp2_with fail
 rw [← hW]
 clear hW
 refine (c64 c r (some ⟨b, off, none⟩) n cap l _ (by have := HG.out; have := HLN.out; omega) H0).mono ?_
 rintro e w1 ⟨rfl, hb1⟩
 rw [hz]
 have hB1 := hB0.call hb1 rfl
 have H1 := H0.below hb1
 replace hT0 := blkb hT0 hb1
 have q0 : w1.cell? ⟨w.heap.size, 0, none⟩ = some (.int .i64 c) := cell_at hT0 rfl
 have q1 : w1.cell? ⟨w.heap.size, 1, none⟩ = some (.int .i64 r) := cell_at hT0 rfl
 clear hb1 hB0 H0
 go_wp2_with fail
 obtain ⟨w2, hW⟩ : ∃ W, W = w1.alloc (Obj.cells #[.int .i64 c, .int .i64 r] 3) := ⟨_, rfl⟩
 have hTs : w2.heap[w1.heap.size]? = some (.cells #[.int .i64 c, .int .i64 r] 3 (0, 0)) := by rw [hW]; exact heap_new (by simp)
 have hb2 : Below w1.heap.size w1 w2 := by rw [hW]; exact (Below.refl _ _).alloc (Nat.le_refl _) _
 rw [← hW]
 clear hW
 have hB2 := hB1.call hb2 rfl
 have H2 := H1.below hb2
 replace hT0 := blkb hT0 hb2
 clear hb2 hB1 H1 q0 q1
 have HT := line_len { data := #[103, 114, 111, 117, 110, 100] } f [(c : Int), (r : Int)] (by decide) (by simp) (fun x hx => HF.out x (by simp at hx ⊢; omega))
 refine (c134 { data := #[103, 114, 111, 117, 110, 100] } (some ⟨w1.heap.size, 0, none⟩) 2 2 [(c : Int), (r : Int)] f _ (by omega) (RdS.of_block (cs := encI [(c : Int), (r : Int)]) hTs rfl) (fun W x hx => HCL.out W x (by simp at hx ⊢; omega)) HT).mono ?_
 rintro e w3 ⟨rfl, hb3⟩
 clear hTs
 have hB3 := hB2.call hb3 rfl
 have H3 := H2.below hb3
 replace hT0 := blkb hT0 hb3
 clear hb3 hB2 H2
 have HTS : Hid (T0.size ≤ 1000001) := Lib.hid (by rw [HT00.out, lineB_size]; exact Nat.succ_le_succ HT)
 rw [show lineB { data := #[103, 114, 111, 117, 110, 100] } ([(c : Int), (r : Int)].map f) = T0 from HT00.out.symm]
 clear HT
 have q0 : w3.cell? ⟨w.heap.size, 0, none⟩ = some (.int .i64 c) := cell_at hT0 rfl
 have q2 : w3.cell? ⟨w.heap.size, 2, none⟩ = some (.slice (some ⟨b, off, none⟩) n cap) := cell_at hT0 rfl
 have hlw := cell_lt q0
 go_wp2_with fail
 refine (c135 b off n cap c hcl1 _).mono ?_
 rintro e w4 ⟨rfl, hw4⟩
 obtain ⟨ob, hob⟩ : ∃ b, b = w3.heap.size := ⟨_, rfl⟩
 obtain ⟨p1, hp1⟩ : ∃ b, b = ob + 1 := ⟨_, rfl⟩
 obtain ⟨p2, hp2⟩ : ∃ b, b = ob + 1 + 1 := ⟨_, rfl⟩
 have hs1 : (w3.alloc (Obj.cells #[.string T0] 9)).heap.size = p1 := by simp; omega
 rw [hs1, show p1 + 1 = p2 by omega]
 have k0 : w4.heap[ob]? = some (.cells #[.string T0] 9 (0, 0)) := by rw [hw4]; exact heap_old (by simp; omega) (heap_old (by simp; omega) (heap_new hob))
 have k1 : w4.heap[p1]? = some (.cells #[.slice (some ⟨b, off, none⟩) n cap] 22 (0, 0)) := by rw [hw4]; exact heap_old (by simp; omega) (heap_new hs1.symm)
 have k2 : w4.heap[p2]? = some (.cells #[.int .i64 c] 3 (0, 0)) := by rw [hw4]; exact heap_new (by simp; omega)
 have hb4 : Below w3.heap.size w3 w4 := by rw [hw4]; exact (below2 _ _ _).alloc (by simp; omega) _
 have hB4 := hB3.call hb4 rfl
 have hsz := hB4.size
 have HWO : Hid (w.heap.size ≤ ob) := Lib.hid (by rw [hob]; exact hB3.size)
 obtain ⟨bs, hbs⟩ : ∃ bs : ByteArray → List (Nat × Array Value × TypeId), bs = fun T => [(ob, #[.string T], 9), (p1, #[.slice (some ⟨b, off, none⟩) n cap], 22), (p2, #[.int .i64 c], 3)] := ⟨_, rfl⟩
 have I0 : BI w [] (bs T0) True w4 := by
  refine ⟨Marks.nil _ _, fun x hx => ?_, hB4, trivial⟩
  rw [hbs] at hx
  simp only [List.mem_cons, List.not_mem_nil, or_false] at hx
  rcases hx with rfl | rfl | rfl
  ·exact k0
  ·exact k1
  ·exact k2
 rw [← hob]
 have HBS := Lib.hid hbs
 have HR0 : Hid (RdI w (some ⟨b, off, none⟩) n l) := HRD
 have hob2 := Lib.hid (⟨by omega, by omega⟩ : p1 ≠ ob ∧ p2 ≠ ob)
 have hord := Lib.hid hsz
 clear hw4 hs1 hp1 hp2 hob k0 k1 k2 hb4 hB4 hB3 H3 hT0 q0 q2 hbs
 go_wp2
 have HNR : Hid (n = r * c) := Lib.hid (by rw [← HLN.out, HG.out, Nat.mul_comm])
 refine (wpIn_wide (n := 6)).1 ?_
 refine wpIn_chunks (n := 6) (by omega) (p1 := p1) (p2 := p2) (b := b) (off := off) (cap := cap) (N := n) (c := c) (r := r) hcl1 (by omega) (by omega) HNR.out hcap hcm rfl rfl (fun k W => BI w [] (bs (prT f c l T0 k)) True W)
  (fun k => BI.own hsz (fun _ h => by cases h))
  (fun k W h => ⟨cell_at (h.blk (p1, #[.slice (some ⟨b, off, none⟩) n cap], 22) (by rw [HBS.out]; simp)) rfl, cell_at (h.blk (p2, #[.int .i64 c], 3) (by rw [HBS.out]; simp)) rfl⟩) I0
  (fun k => { tmps := #[.agg #[.int .i64 c, .int .i64 r, .slice (some ⟨b, off, none⟩) n cap], .pointer (some ⟨w.heap.size, 0, none⟩), .string { data := #[] }, .int .i64 0, .int .i64 0, .pointer (some ⟨ob, 0, none⟩), .slice (some ⟨b, off + k * c, none⟩) c c, .agg #[.int .i64 c, .int .i64 r, .slice (some ⟨b, off, none⟩) n cap], .int .i64 0, .int .i64 0, .bool false, undef, .pointer (some ⟨w.heap.size, 0, none⟩), .int .i64 c, .pointer (some ⟨w.heap.size, 1, none⟩), .int .i64 r, .slice (some ⟨w1.heap.size, 0, none⟩) 2 2, .string T0, .pointer (some ⟨w.heap.size, 2, none⟩), .slice (some ⟨b, off, none⟩) n cap, .pointer (some ⟨w.heap.size, 0, none⟩), .int .i64 c, .func (.func 163) #[] #[.pointer (some ⟨p1, 0, none⟩), .pointer (some ⟨p2, 0, none⟩)], .slice (some ⟨b, off + k * c, none⟩) c c, undef, undef, undef, undef, undef], defers := [] }) ?assign ?body ?done
 case assign =>
  intro lr k W K hK
  have HK := Lib.hid hK
  clear hK
  gi_wp2
  exact HK.out
 case done =>
  intro D W hD hI hK
  have k0 : W.heap[ob]? = some (.cells #[.string (prT f c l T0 r)] 9 (0, 0)) := hI.blk (ob, _, _) (by rw [HBS.out]; simp)
  have c0 : W.cell? ⟨ob, 0, none⟩ = some (.string (prT f c l T0 r)) := cell_at k0 rfl
  have hM : Marks w.heap.size [D] W := (Marks.nil _ w).push (Marks.nil _ W) (Nat.le_refl _) (Nat.le_trans hord.out hD) hK
  have HM := Lib.hid hM
  have HI := Lib.hid hI
  clear hI hM hK
  go_wp2
  refine leaves_marks [D] W W HM.out (Aft.refl _ _) rfl (fun w' ha => ?_)
  refine ⟨.tuple #[.string (prT f c l T0 r), .int .i64 0], by simp [results, Tryz.results81, go_sem], ?_⟩
  exact ⟨rfl, ha.2 w HI.out.bel.size HI.out.bel⟩
 case body =>
  intro lr k W hk hsz2 hI
  have k0 : W.heap[ob]? = some (.cells #[.string (prT f c l T0 k)] 9 (0, 0)) := hI.blk (ob, _, _) (by rw [HBS.out]; simp)
  have c0 : W.cell? ⟨ob, 0, none⟩ = some (.string (prT f c l T0 k)) := cell_at k0 rfl
  have f0 := free_at k0 (i := 0)
  have l0 := cell_lt c0
  have HRW := HR0.out.below hI.bel
  have HI := Lib.hid hI
  have HK0 := Lib.hid k0
  obtain ⟨T1, hT1⟩ : ∃ T, T = prT f c l T0 k := ⟨_, rfl⟩
  rw [← hT1] at c0
  have HT1 := Lib.hid hT1
  have hkc : k * c + c ≤ n := by
   rw [HNR.out]
   have : (k + 1) * c ≤ r * c := Nat.mul_le_mul hk (Nat.le_refl _)
   rw [Nat.add_mul] at this
   omega
  have hseg : Hid (RdI W (some ⟨b, off + k * c, none⟩) c (Im.rowK c l k)) := Lib.hid (HRW.seg (k * c) c hkc)
  have hmem : Hid (∀ x ∈ Im.rowK c l k, x ∈ (c : Int) :: (r : Int) :: l) := Lib.hid (fun x hx => by
   have := List.mem_of_mem_drop (List.mem_of_mem_take hx)
   simp [this])
  have HLC : Hid ((Lib.join (({ data := #[114, 111, 119] } :: (Im.rowK c l k).map f).map (·.data.toList)) [32]).length ≤ 1000000) := Lib.hid (line_len _ f _ (by decide) (by have := hseg.out.len; omega) (fun x hx => HF.out x (hmem.out x hx)))
  clear hI k0 hT1 HRW
  gi_wp2
  refine wpIn_region_planL [(0, true), (1, true), (2, false), (3, false)] W.heap.size 4 (by kernel_rfl) (by kernel_rfl) (by kernel_rfl) (fun ⟨_, _, h⟩ => h) (Nat.le_refl _) (fun _ _ d _ _ h => by cases d <;> exact h) ?_
  have hC : Below W.heap.size W W := Below.refl _ _
  repeat (first | (refine wpPlanLA_skip _ rfl (by rfl) ?_; simp only [Act.put, List.setIfInBounds_toArray, List.set_cons_zero, List.set_cons_succ]) | (refine wpPlanLA_soft _ ?_ rfl (by rfl) ?_ ?_; rotate_left; (intro wq hq hcq; go_simp; first | exact rfl | exact ⟨rfl, rfl⟩); simp only [Act.put, List.setIfInBounds_toArray, List.set_cons_zero, List.set_cons_succ]))
  refine wpPlanLA_hard _ rfl (by rfl) (fun w5 hS K hK => ?_)
  replace hC := hC.call hS rfl
  clear hS
  go_simp
  refine (c134 { data := #[114, 111, 119] } (some ⟨b, off + k * c, none⟩) c c (Im.rowK c l k) f _ (by omega) (hseg.out.below hC) (fun W x hx => HCL.out W x (hmem.out x hx)) HLC.out).mono ?_
  rintro e w6 ⟨rfl, hb⟩
  replace hC := hC.call hb rfl
  clear hb
  refine hK _ _ hC ?_
  clear hK K
  try simp only [Act.put, List.setIfInBounds_toArray, List.set_cons_zero, List.set_cons_succ]
  refine wpPlanLA_hard _ rfl (by rfl) (fun w5 hS K hK => ?_)
  replace hC := hC.call hS rfl
  clear hS
  go_simp
  obtain ⟨LN, hLN⟩ : ∃ L, L = lineB { data := #[114, 111, 119] } ((Im.rowK c l k).map f) := ⟨_, rfl⟩
  have hsz7 : ¬ (9223372036854775807 < T1.size + LN.size) := by
   have h1 := prT_size f c l T0 (fun x hx => HF.out x (by simp [hx])) (by omega) k
   have h2 := HLC.out
   have h3 := HTS.out
   rw [hLN, lineB_size, HT1.out]
   omega
  rw [← hLN, if_neg hsz7]
  have HLNE := Lib.hid hLN
  clear hLN hsz7
  dsimp only [Oper.upon]
  refine hK _ _ hC ?_
  clear hK K
  try simp only [Act.put, List.setIfInBounds_toArray, List.set_cons_zero, List.set_cons_succ]
  refine wpPlanLA_last _ rfl (by rfl) (fun w7 hS K hK => ?_)
  replace hC := hC.call hS rfl
  clear hS
  have k7 := blkb HK0.out hC
  have f7 := free_at k7 (i := 0)
  have l7 := cell_lt (cell_at k7 (i := 0) rfl)
  have c7 := cell_at k7 (i := 0) rfl
  have HC := Lib.hid hC
  clear hC
  go_simp
  try dsimp only [Oper.upon]
  refine hK _ _ (fun w8 hb8 => ?_)
  have hkk : KeepsFrom w4.heap.size W w8 := ((keepsF_below HC.out).trans (keepsF_set _ k7)).trans (keepsF_below hb8)
  have h7 := (HI.out.below HC.out).set (b := ob) (bs' := bs (prT f c l T0 (k + 1))) (.string (T1 ++ LN)) HWO.out k7 (fun x hx => by
   rw [HBS.out] at hx ⊢
   simp only [List.mem_cons, List.not_mem_nil, or_false] at hx
   obtain ⟨hn1, hn2⟩ := hob2.out
   rcases hx with rfl | rfl | rfl
   ·exact .inl ⟨rfl, by rw [HT1.out, HLNE.out]; rfl, rfl⟩
   ·exact .inr ⟨hn1, by simp⟩
   ·exact .inr ⟨hn2, by simp⟩)
  exact ⟨hkk, h7.below hb8⟩
end Go.Proofs.YtdimmlljjmmdbaaGreatDoor
namespace Go.Proofs.YtdimmlljjmmdbaaGreatDoor
open Go.RowKit Go.Shelf
set_option maxHeartbeats 8000000
set_option maxRecDepth 100000
theorem gr1234 : Im.Gr 2 2 [1, 2, 3, 4] := by
 refine ⟨by omega, by omega, by decide, fun i hi => ?_, fun i hi => ?_⟩
 ·match i, hi with
  | 0, _ => decide
  | 1, _ => decide
  | 2, _ => decide
  | 3, _ => decide
 ·match i, hi with
  | 0, _ => decide
  | 1, _ => decide
  | 2, _ => decide
  | 3, _ => decide
theorem prints : PrintS := by
 intro g W H
 have := c81_ok 2 2 g 0 4 4 [1, 2, 3, 4] (fun x => ⟨(Lib.decDigits x.toNat).toArray⟩) W gr1234 (by omega) (by omega) (by omega) (by omega) H (fun W x hx => ?_) (fun x hx => ?_)
 ·refine this.mono (fun e w' h => ⟨?_, h.2⟩)
  rw [h.1]
  congr 5
  decide +kernel
 ·have hx2 : x ∈ ([2, 2, 1, 2, 3, 4] : List Int) := hx
  obtain ⟨i, rfl⟩ : ∃ i : Nat, x = i := ⟨x.toNat, by simp at hx2; omega⟩
  have hi : i < 100 := by simp at hx2; omega
  exact Tryz.strconv_Itoa_small i hi W
 ·have hx2 : x ∈ ([2, 2, 1, 2, 3, 4] : List Int) := hx
  simp at hx2
  rcases hx2 with rfl | rfl | rfl | rfl | rfl <;> exact (by decide +kernel)
theorem c18 (w : World) (hst : Steps w) :
  Calls Tryz.prog 18 #[] w fun en w' => en = .returned (.bool true) ∧ Below w.heap.size w w' := c18_of prints w hst
end Go.Proofs.YtdimmlljjmmdbaaGreatDoor
namespace Go.Proofs.YtdimmlljjmmdbaaGreatDoor
open Go.RowKit Go.Shelf
set_option maxHeartbeats 8000000
set_option maxRecDepth 100000
/-- the test of a straight neighbour whose number is too far off -/
def farT (c : Nat) (l ns : List Int) (most : Int) (i k : Nat) : Bool := decide (0 < Im.cost c l i k) && Im.straight c i k && decide (most < max (Im.at0 ns k - Im.at0 ns i) (Im.at0 ns i - Im.at0 ns k))
theorem far_all (c : Nat) (l ns : List Int) (most : Int) (i : Nat) : (List.range l.length).any (farT c l ns most i) = Im.alia c l ns most i := rfl
theorem far_succ (c : Nat) (l ns : List Int) (most : Int) (i k : Nat) : (List.range (k + 1)).any (farT c l ns most i) = ((List.range k).any (farT c l ns most i) || farT c l ns most i k) := by
 rw [List.range_succ, List.any_append]; simp
theorem tk_push {LL : List Int} {k : Nat} (h : k < LL.length) : LL.take k ++ [Im.at0 LL k] = LL.take (k + 1) := by
 rw [List.take_add_one, List.getElem?_eq_getElem h]
 simp [Im.at0, List.getD_eq_getElem?_getD, h]
theorem rd1y (w : World) (a : Int) : RdI (w.alloc (Obj.cells #[.int .i64 a] 3)) (some ⟨w.heap.size, 0, none⟩) 1 [a] := RdS.of_new (cs := encI [a]) rfl rfl
theorem c29o (c r : Nat) (A : Option Addr) (n cap : Nat) (l : List Int) (un len most : Int) (P : Option Addr) (np capp : Nat) (ps : List Pr) (j a b : Nat) (hole : Bool) (w : World) (g : Im.Gr c r l) (hc : c ≤ 16) (hr : r ≤ 16) (hu : 1 ≤ un ∧ un ≤ 1000) (hlen : 0 ≤ len) (hj : ps[j]? = some ⟨a, b, hole⟩) (hjn : j < np) (hnp : np ≤ 1000000) (ha : a < n) (hb0 : b < n) (H : RdI w A n l) (HP : RdP w P np ps) :
  Calls Tryz.prog 29 #[.agg #[.int .i64 c, .int .i64 r, .slice A n cap], .agg #[.int .i64 un, .int .i64 len, .int .i64 most, .slice P np capp], .int .i64 j] w fun en w' => ∃ gx gc, en = .returned (.slice (some ⟨gx, 0, none⟩) n gc) ∧ RowI w' w.heap.size gx gc n (dlL c l un len most a b hole) ∧ Below w.heap.size w w' := by
 have hln := H.len
 have HLN : Hid (l.length = n) := Lib.hid hln
 obtain ⟨i0, hiz, hz0, hz1, hz2⟩ := info_parts info3
 have HG := Lib.hid g
 have hn0 : 0 < n := by omega
 have hn256 : n ≤ 256 := by have := g.len; have : c * r ≤ 256 := Nat.mul_le_mul hc hr; omega
 have hl : n ≤ 1000000 := by omega
 have hc1 := g.c1
 have hd0 : ((c : Int) == 0) = false := by simp; omega
 have hdz : ¬ c = 0 := by omega
 have hu0 : ¬ un = 0 := by omega
 obtain ⟨pb, poff, p, rfl, hpx, hpb, hp0, hp1, hp2⟩ := HP.at hjn
 rw [hj] at hpx
 obtain rfl := (Option.some.inj hpx)
 dsimp only at hp0 hp1 hp2
 have hjn2 : (j : Int) < (np : Int) := by omega
 have hj0 : (0 : Int) ≤ (j : Int) := by omega
 clear hpx
 obtain ⟨w0, hW⟩ : ∃ W, W = (w.alloc (Obj.cells #[.int .i64 c, .int .i64 r, .slice A n cap] 24)).alloc (Obj.cells #[.int .i64 un, .int .i64 len, .int .i64 most, .slice (some ⟨pb, poff, none⟩) np capp] 27) := ⟨_, rfl⟩
 have hT0 : w0.heap[w.heap.size]? = some (.cells #[.int .i64 c, .int .i64 r, .slice A n cap] 24 (0, 0)) := by rw [hW]; exact heap_old (by simp <;> omega) (heap_new (by simp))
 have hT1 : w0.heap[w.heap.size + 1]? = some (.cells #[.int .i64 un, .int .i64 len, .int .i64 most, .slice (some ⟨pb, poff, none⟩) np capp] 27 (0, 0)) := by rw [hW]; exact heap_new (by simp)
 have hB0 : Below w.heap.size w w0 := by rw [hW]; exact (((Below.refl _ _).alloc (by first | omega | (simp <;> omega)) _).alloc (by first | omega | (simp <;> omega)) _)
 replace H := H.below hB0
 replace HP := HP.below hB0
 go_enter Tryz.func29, Tryz.ntmps29
 go_wp2_with fail
 rw [← hW]
 have hsz0 : w0.heap.size = w.heap.size + 1 + 1 := by rw [hW]; simp
 clear hW
 have qhT0_0 : w0.cell? ⟨w.heap.size, 0, none⟩ = some (.int .i64 c) := cell_at hT0 rfl
 have qhT0_1 : w0.cell? ⟨w.heap.size, 1, none⟩ = some (.int .i64 r) := cell_at hT0 rfl
 have qhT0_2 : w0.cell? ⟨w.heap.size, 2, none⟩ = some (.slice A n cap) := cell_at hT0 rfl
 have qhT1_0 : w0.cell? ⟨w.heap.size + 1, 0, none⟩ = some (.int .i64 un) := cell_at hT1 rfl
 have qhT1_1 : w0.cell? ⟨w.heap.size + 1, 1, none⟩ = some (.int .i64 len) := cell_at hT1 rfl
 have qhT1_2 : w0.cell? ⟨w.heap.size + 1, 2, none⟩ = some (.int .i64 most) := cell_at hT1 rfl
 have qhT1_3 : w0.cell? ⟨w.heap.size + 1, 3, none⟩ = some (.slice (some ⟨pb, poff, none⟩) np capp) := cell_at hT1 rfl
 obtain ⟨_, _, p', e9, hpx, _, hq0, hq1, hq2⟩ := HP.at hjn
 cases e9
 rw [hj] at hpx
 obtain rfl := (Option.some.inj hpx)
 dsimp only at hq0 hq1 hq2
 have zp0 := cell_lt qhT0_0
 have zp1 := cell_lt qhT1_0
 have zpb := cell_lt hq0
 clear hpx hp0 hp1 hp2 hpb
 go_wp2_with fail
 obtain ⟨w1, hwn⟩ : ∃ V, V = w0.alloc (Obj.cells #[.int .i64 a, .int .i64 b, .bool hole] 101) := ⟨_, rfl⟩
 obtain ⟨bp, hbp⟩ : ∃ b, b = w.heap.size + 1 + 1 := ⟨_, rfl⟩
 have hT2 : w1.heap[bp]? = some (.cells #[.int .i64 a, .int .i64 b, .bool hole] 101 (0, 0)) := by rw [hwn]; exact heap_new (by omega)
 have hbn : Below w0.heap.size w0 w1 := by rw [hwn]; exact (Below.refl _ _).alloc (Nat.le_refl _) _
 try rw [← hwn]
 clear hwn hq0 hq1 hq2 zp0 zp1 zpb
 rw [← hbp]
 clear hbp hsz0
 clear qhT0_0 qhT0_1 qhT0_2 qhT1_0 qhT1_1 qhT1_2 qhT1_3
 have hS := hbn
 have hB1 := hB0.call hS rfl
 replace hT0 := blkb hT0 hS
 replace hT1 := blkb hT1 hS
 replace H := H.below hS
 replace HP := HP.below hS
 clear hS hB0
 have qhT0_0 : w1.cell? ⟨w.heap.size, 0, none⟩ = some (.int .i64 c) := cell_at hT0 rfl
 have qhT0_1 : w1.cell? ⟨w.heap.size, 1, none⟩ = some (.int .i64 r) := cell_at hT0 rfl
 have qhT0_2 : w1.cell? ⟨w.heap.size, 2, none⟩ = some (.slice A n cap) := cell_at hT0 rfl
 have qhT1_0 : w1.cell? ⟨w.heap.size + 1, 0, none⟩ = some (.int .i64 un) := cell_at hT1 rfl
 have qhT1_1 : w1.cell? ⟨w.heap.size + 1, 1, none⟩ = some (.int .i64 len) := cell_at hT1 rfl
 have qhT1_2 : w1.cell? ⟨w.heap.size + 1, 2, none⟩ = some (.int .i64 most) := cell_at hT1 rfl
 have qhT1_3 : w1.cell? ⟨w.heap.size + 1, 3, none⟩ = some (.slice (some ⟨pb, poff, none⟩) np capp) := cell_at hT1 rfl
 clear hbn
 have qhT2_0 : w1.cell? ⟨bp, 0, none⟩ = some (.int .i64 a) := cell_at hT2 rfl
 have qhT2_1 : w1.cell? ⟨bp, 1, none⟩ = some (.int .i64 b) := cell_at hT2 rfl
 have qhT2_2 : w1.cell? ⟨bp, 2, none⟩ = some (.bool hole) := cell_at hT2 rfl
 go_wp2_with fail
 refine wp_region_plan [(0, true), (1, true), (2, true), (4, true), (5, true), (6, true), (3, false), (7, false), (8, true), (9, true)] w1.heap.size (by kernel_rfl) (by kernel_rfl) (Nat.le_refl _) (fun _ _ d _ _ h => by cases d <;> exact h) ?_
 have hC : Below w1.heap.size w1 w1 := Below.refl _ _
 have zhT0 : w.heap.size < w1.heap.size := (Array.getElem?_eq_some_iff.1 hT0).1
 have zhT1 : w.heap.size + 1 < w1.heap.size := (Array.getElem?_eq_some_iff.1 hT1).1
 have zhT2 : bp < w1.heap.size := (Array.getElem?_eq_some_iff.1 hT2).1
 repeat (first | (refine wpPlanA_skip _ rfl (by rfl) ?_; simp only [Act.put, List.setIfInBounds_toArray, List.set_cons_zero, List.set_cons_succ]) | (refine wpPlanA_soft _ ?_ rfl (by rfl) ?_ ?_; rotate_left; (intro wq hq hcq; go_simp; first | exact rfl | exact ⟨rfl, rfl⟩); simp only [Act.put, List.setIfInBounds_toArray, List.set_cons_zero, List.set_cons_succ]))
 refine wpPlanA_hard _ rfl (by rfl) (fun w2 hS K hK => ?_)
 have hB2 := hB1.call hS rfl
 replace hC := hC.call hS rfl
 replace hT0 := blkb hT0 hS
 replace hT1 := blkb hT1 hS
 replace H := H.below hS
 replace HP := HP.below hS
 replace hT2 := blkb hT2 hS
 clear hS hB1
 go_simp
 refine (c63 c r A n cap l a _ g hc hr ha H).mono ?_
 rintro e w3 ⟨o1, cp1, t1, rfl, hrow1, hIT1, hb⟩
 have hB3 := hB2.call hb rfl
 replace hC := hC.call hb rfl
 replace hT0 := blkb hT0 hb
 replace hT1 := blkb hT1 hb
 replace H := H.below hb
 replace HP := HP.below hb
 replace hT2 := blkb hT2 hb
 clear hb hB2
 refine hK _ _ hC ?_
 clear hK K
 try simp only [Act.put, List.setIfInBounds_toArray, List.set_cons_zero, List.set_cons_succ]
 repeat (first | (refine wpPlanA_skip _ rfl (by rfl) ?_; simp only [Act.put, List.setIfInBounds_toArray, List.set_cons_zero, List.set_cons_succ]) | (refine wpPlanA_soft _ ?_ rfl (by rfl) ?_ ?_; rotate_left; (intro wq hq hcq; go_simp; first | exact rfl | exact ⟨rfl, rfl⟩); simp only [Act.put, List.setIfInBounds_toArray, List.set_cons_zero, List.set_cons_succ]))
 refine wpPlanA_hard _ rfl (by rfl) (fun w4 hS K hK => ?_)
 have hB4 := hB3.call hS rfl
 replace hC := hC.call hS rfl
 replace hT0 := blkb hT0 hS
 replace hT1 := blkb hT1 hS
 replace H := H.below hS
 replace HP := HP.below hS
 replace hT2 := blkb hT2 hS
 replace hrow1 := hrow1.below hS
 clear hS hB3
 go_simp
 refine (c63 c r A n cap l b _ g hc hr hb0 H).mono ?_
 rintro e w5 ⟨o2, cp2, t2, rfl, hrow2, hIT2, hb⟩
 have hB5 := hB4.call hb rfl
 replace hC := hC.call hb rfl
 replace hT0 := blkb hT0 hb
 replace hT1 := blkb hT1 hb
 replace H := H.below hb
 replace HP := HP.below hb
 replace hT2 := blkb hT2 hb
 replace hrow1 := hrow1.below hb
 clear hb hB4
 refine hK _ _ hC ?_
 clear hK K
 try simp only [Act.put, List.setIfInBounds_toArray, List.set_cons_zero, List.set_cons_succ]
 repeat (first | (refine wpPlanA_skip _ rfl (by rfl) ?_; simp only [Act.put, List.setIfInBounds_toArray, List.set_cons_zero, List.set_cons_succ]) | (refine wpPlanA_soft _ ?_ rfl (by rfl) ?_ ?_; rotate_left; (intro wq hq hcq; go_simp; first | exact rfl | exact ⟨rfl, rfl⟩); simp only [Act.put, List.setIfInBounds_toArray, List.set_cons_zero, List.set_cons_succ]))
 clear qhT0_0 qhT0_1 qhT0_2 qhT1_0 qhT1_1 qhT1_2 qhT1_3 qhT2_0 qhT2_1 qhT2_2
 refine wpPlanA_nil (fun w6 hS => ?_)
 clear hC zhT0 zhT1 zhT2
 have hB6 := hB5.call hS rfl
 replace hT0 := blkb hT0 hS
 replace hT1 := blkb hT1 hS
 replace H := H.below hS
 replace HP := HP.below hS
 replace hT2 := blkb hT2 hS
 replace hrow1 := hrow1.below hS
 replace hrow2 := hrow2.below hS
 clear hS hB5
 have qhT0_0 : w6.cell? ⟨w.heap.size, 0, none⟩ = some (.int .i64 c) := cell_at hT0 rfl
 have qhT0_1 : w6.cell? ⟨w.heap.size, 1, none⟩ = some (.int .i64 r) := cell_at hT0 rfl
 have qhT0_2 : w6.cell? ⟨w.heap.size, 2, none⟩ = some (.slice A n cap) := cell_at hT0 rfl
 have qhT1_0 : w6.cell? ⟨w.heap.size + 1, 0, none⟩ = some (.int .i64 un) := cell_at hT1 rfl
 have qhT1_1 : w6.cell? ⟨w.heap.size + 1, 1, none⟩ = some (.int .i64 len) := cell_at hT1 rfl
 have qhT1_2 : w6.cell? ⟨w.heap.size + 1, 2, none⟩ = some (.int .i64 most) := cell_at hT1 rfl
 have qhT1_3 : w6.cell? ⟨w.heap.size + 1, 3, none⟩ = some (.slice (some ⟨pb, poff, none⟩) np capp) := cell_at hT1 rfl
 have qhT2_0 : w6.cell? ⟨bp, 0, none⟩ = some (.int .i64 a) := cell_at hT2 rfl
 have qhT2_1 : w6.cell? ⟨bp, 1, none⟩ = some (.int .i64 b) := cell_at hT2 rfl
 have qhT2_2 : w6.cell? ⟨bp, 2, none⟩ = some (.bool hole) := cell_at hT2 rfl
 have HNS : Hid (∀ k, k < n → nsK c l un a b k = (Im.at0 t1 k + Im.at0 t2 k) / un) := Lib.hid (fun k hk => by
  unfold nsK
  rw [Im.times_eq hIT1, Im.times_eq hIT2])
 have HT1 := Lib.hid (fun k (hk : k < n) => time_le g hc hr (by rw [hln]; exact ha) hIT1 (k := k) (by rw [hln]; exact hk))
 have HT2 := Lib.hid (fun k (hk : k < n) => time_le g hc hr (by rw [hln]; exact hb0) hIT2 (k := k) (by rw [hln]; exact hk))
 have HNB : Hid (∀ k, k < n → 0 ≤ Im.at0 (nsL c l un a b) k ∧ Im.at0 (nsL c l un a b) k ≤ 1000000) := Lib.hid (fun k hk => by
  have hk' : k < l.length := by omega
  rw [nsL_at hk']
  have := nsK_le g hc hr hu.1 (a := a) (b := b) (by omega) (by omega) (by rw [Im.times_eq hIT1]; exact hIT1) (by rw [Im.times_eq hIT2]; exact hIT2) hk'
  omega)
 have HNL : Hid ((nsL c l un a b).length = n) := Lib.hid (by rw [nsL_len]; exact hln)
 have HNA : Hid (∀ k, k < n → Im.at0 (nsL c l un a b) k = nsK c l un a b k) := Lib.hid (fun k hk => nsL_at (by omega))
 have HDL : Hid (dlL c l un len most a b hole = Im.delays c l (nsL c l un a b) len most hole) := Lib.hid rfl
 generalize nsL c l un a b = ns at HNB HNL HNA HDL
 have z1 : o1 < w6.heap.size := (hrow1.cell hn0).2.2
 have z2 : o2 < w6.heap.size := (hrow2.cell hn0).2.2
 have zu : w.heap.size + 1 < w6.heap.size := (Array.getElem?_eq_some_iff.1 hT1).1
 clear hIT1 hIT2
 go_wp2_with fail
 go_loopw [10, 12] (fun x i wr => ∃ k : Nat, k ≤ n ∧ i = .int .i64 k ∧ Hid (Own wr w6.heap.size x k (encI (ns.take k))) ∧ Below w6.heap.size w6 wr) (fun _ i _ => n - (intOf i).toNat)
 case atStart => exact ⟨0, Nat.zero_le _, rfl, Lib.hid (World.ownsRow_nil _ _ _ _), Below.refl _ _⟩
 case round =>
  obtain ⟨k, hk, rfl, HOW, hbr⟩ := hrel
  obtain ⟨w7, hww⟩ : ∃ W, W = wr := ⟨_, rfl⟩
  subst hww
  have hB7 := hB6.call hbr rfl
  replace hT0 := blkb hT0 hbr
  replace hT1 := blkb hT1 hbr
  replace H := H.below hbr
  replace HP := HP.below hbr
  replace hT2 := blkb hT2 hbr
  replace hrow1 := hrow1.below hbr
  replace hrow2 := hrow2.below hbr
  clear hB6
  have qhT0_0 : w7.cell? ⟨w.heap.size, 0, none⟩ = some (.int .i64 c) := cell_at hT0 rfl
  have qhT0_1 : w7.cell? ⟨w.heap.size, 1, none⟩ = some (.int .i64 r) := cell_at hT0 rfl
  have qhT0_2 : w7.cell? ⟨w.heap.size, 2, none⟩ = some (.slice A n cap) := cell_at hT0 rfl
  have qhT1_0 : w7.cell? ⟨w.heap.size + 1, 0, none⟩ = some (.int .i64 un) := cell_at hT1 rfl
  have qhT1_1 : w7.cell? ⟨w.heap.size + 1, 1, none⟩ = some (.int .i64 len) := cell_at hT1 rfl
  have qhT1_2 : w7.cell? ⟨w.heap.size + 1, 2, none⟩ = some (.int .i64 most) := cell_at hT1 rfl
  have qhT1_3 : w7.cell? ⟨w.heap.size + 1, 3, none⟩ = some (.slice (some ⟨pb, poff, none⟩) np capp) := cell_at hT1 rfl
  have qhT2_0 : w7.cell? ⟨bp, 0, none⟩ = some (.int .i64 a) := cell_at hT2 rfl
  have qhT2_1 : w7.cell? ⟨bp, 1, none⟩ = some (.int .i64 b) := cell_at hT2 rfl
  have qhT2_2 : w7.cell? ⟨bp, 2, none⟩ = some (.bool hole) := cell_at hT2 rfl
  have hwk : IntKind.i64.wrap ((k : Int) + 1) = ((k + 1 : Nat) : Int) := by rw [wrapI (by omega)]; simp
  by_cases hlt : k < n
  ·
    obtain ⟨VA, vc, rfl⟩ := own_slice HOW.out
    have hkn2 : (k : Int) < (n : Int) := by omega
    have hk02 : (0 : Int) ≤ (k : Int) := by omega
    have q1 := (hrow1.cell hlt).1
    have q2 := (hrow2.cell hlt).1
    have hb1 := HT1.out k hlt
    have hb2 := HT2.out k hlt
    have HV := Lib.hid ((HNA.out k hlt).trans (HNS.out k hlt))
    have HTK := Lib.hid (tk_push (LL := ns) (k := k) (by rw [HNL.out]; exact hlt))
    rw [HV.out] at HTK
    generalize Im.at0 t1 k = x1 at q1 hb1 HTK
    generalize Im.at0 t2 k = x2 at q2 hb2 HTK
    have hw1 : IntKind.i64.wrap (x1 + x2) = x1 + x2 := wrapI (by omega)
    have hd1 : (x1 + x2).tdiv un = (x1 + x2) / un := Int.tdiv_eq_ediv_of_nonneg (by omega)
    have hd2 : 0 ≤ (x1 + x2) / un := Int.ediv_nonneg (by omega) (by omega)
    have hd3 : (x1 + x2) / un ≤ x1 + x2 := Int.ediv_le_self _ (by omega)
    have hw2 : IntKind.i64.wrap ((x1 + x2) / un) = (x1 + x2) / un := wrapI (by omega)
    generalize hxy : (x1 + x2) / un = x3 at hd1 hw2 hd2 hd3 HTK
    clear hxy hb1 hb2 hd2 hd3 HV
    have hsz : w6.heap.size ≤ w7.heap.size := hbr.size
    have hown := HOW.out
    clear HOW
    go_wp2_with fail
    refine wp_region_plan [(0, true), (1, true), (2, true), (3, true), (4, true), (5, true), (6, true), (7, true), (8, true), (9, true), (10, true), (11, true), (12, true), (13, false), (14, false), (15, true)] w6.heap.size (by kernel_rfl) (by kernel_rfl) hsz (fun _ _ d _ _ h => by cases d <;> exact h) ?_
    have hC : Below w6.heap.size w7 w7 := Below.refl _ _
    repeat (first | (refine wpPlanA_skip _ rfl (by rfl) ?_; simp only [Act.put, List.setIfInBounds_toArray, List.set_cons_zero, List.set_cons_succ]) | (refine wpPlanA_soft _ ?_ rfl (by rfl) ?_ ?_; rotate_left; (intro wq hq hcq; have hz1 := (hcq _ _ z1).trans q1; have hz2 := (hcq _ _ z2).trans q2; go_simp; first | exact rfl | exact ⟨rfl, rfl⟩); simp only [Act.put, List.setIfInBounds_toArray, List.set_cons_zero, List.set_cons_succ]))
    refine wpPlanA_hard _ rfl (by rfl) (fun w13 hS K hK => ?_)
    go_simp
    have hC3 := hS.mono hsz
    have hz3 : w6.heap.size ≤ w13.heap.size := Nat.le_trans hsz hS.size
    refine hK _ _ (hC3.alloc hz3 _) ?_
    clear hK K
    have hrd := rd1y w13 x3
    have hC4 := hC3.alloc hz3 (Obj.cells #[.int .i64 x3] 3)
    have hD4 := hS.alloc hS.size (Obj.cells #[.int .i64 x3] 3)
    clear hS hC hC3
    generalize w13.alloc (Obj.cells #[.int .i64 x3] 3) = w14 at hrd hC4 hD4 ⊢
    clear hz3
    generalize w13.heap.size = g3 at hrd ⊢
    try simp only [Act.put, List.setIfInBounds_toArray, List.set_cons_zero, List.set_cons_succ]
    refine wpPlanA_hard _ rfl (by rfl) (fun w15 hS K hK => ?_)
    have hz4 : w6.heap.size ≤ w14.heap.size := Nat.le_trans hsz hD4.size
    replace hC4 := hC4.trans (hS.mono hz4)
    replace hrd := hrd.below hS
    replace hD4 := hD4.call hS rfl
    clear hS hz4
    have hz5 : w6.heap.size ≤ w15.heap.size := Nat.le_trans hsz hD4.size
    refine wp_app_ints _ _ rfl w6.heap.size (.slice VA k vc) k (ns.take k) [x3] rfl (Own.below hown hD4) (some ⟨g3, 0, none⟩) 1 1 rfl hrd (by omega) hz5 ?_
    intro v' w16 ho6 hb6
    refine hK _ _ (hC4.trans hb6) ?_
    clear hK K hown hrd hD4
    try simp only [Act.put, List.setIfInBounds_toArray, List.set_cons_zero, List.set_cons_succ]
    obtain ⟨VB, vb, rfl⟩ := own_slice ho6
    repeat (first | (refine wpPlanA_skip _ rfl (by rfl) ?_; simp only [Act.put, List.setIfInBounds_toArray, List.set_cons_zero, List.set_cons_succ]) | (refine wpPlanA_soft _ ?_ rfl (by rfl) ?_ ?_; rotate_left; (intro wq hq hcq; go_simp; first | exact rfl | exact ⟨rfl, rfl⟩); simp only [Act.put, List.setIfInBounds_toArray, List.set_cons_zero, List.set_cons_succ]))
    refine wpPlanA_nil (fun w17 hS => ?_)
    have HO : Hid (Own w17 w6.heap.size (.slice VB (k + 1) vb) (k + 1) (encI (ns.take (k + 1)))) := Lib.hid (by rw [← HTK.out]; exact ho6.below hS)
    have HBN := Lib.hid ((hbr.trans (hC4.trans hb6)).call hS rfl)
    clear hS hC4 hb6 ho6 q1 q2 hz5
    go_wp2
    go_roundw
    case rel => exact ⟨k + 1, by omega, by go_num, HO, HBN.out⟩
    case measure => simp [intOf]; omega
  obtain rfl : n = k := by omega
  obtain ⟨gs, gcap, rfl, hrn⟩ := RowI.of_own hn0 HOW.out
  rw [List.take_of_length_le (by rw [HNL.out]; exact Nat.le_refl _)] at hrn
  have HLE : Hid (w.heap.size ≤ w7.heap.size) := Lib.hid hB7.size
  clear HOW
  clear z1 z2 zu
  go_wp2_with fail
  go_loopw [11, 13] (fun x i wr => ∃ k : Nat, k ≤ n ∧ i = .int .i64 k ∧ Hid (Own wr w7.heap.size x k (encI ((Im.delays c l ns len most hole).take k))) ∧ Below w7.heap.size w7 wr) (fun _ i _ => n - (intOf i).toNat)
  case atStart => exact ⟨0, Nat.zero_le _, rfl, Lib.hid (World.ownsRow_nil _ _ _ _), Below.refl _ _⟩
  case round =>
   obtain ⟨i, hi, rfl, HOW, hbq⟩ := hrel
   obtain ⟨w8, hww⟩ : ∃ W, W = wr := ⟨_, rfl⟩
   subst hww
   have hB8 := hB7.call hbq rfl
   replace hT0 := blkb hT0 hbq
   replace hT1 := blkb hT1 hbq
   replace H := H.below hbq
   replace HP := HP.below hbq
   replace hT2 := blkb hT2 hbq
   replace hrow1 := hrow1.below hbq
   replace hrow2 := hrow2.below hbq
   replace hrn := hrn.below hbq
   clear hB7
   have qhT0_0 : w8.cell? ⟨w.heap.size, 0, none⟩ = some (.int .i64 c) := cell_at hT0 rfl
   have qhT0_1 : w8.cell? ⟨w.heap.size, 1, none⟩ = some (.int .i64 r) := cell_at hT0 rfl
   have qhT0_2 : w8.cell? ⟨w.heap.size, 2, none⟩ = some (.slice A n cap) := cell_at hT0 rfl
   have qhT1_0 : w8.cell? ⟨w.heap.size + 1, 0, none⟩ = some (.int .i64 un) := cell_at hT1 rfl
   have qhT1_1 : w8.cell? ⟨w.heap.size + 1, 1, none⟩ = some (.int .i64 len) := cell_at hT1 rfl
   have qhT1_2 : w8.cell? ⟨w.heap.size + 1, 2, none⟩ = some (.int .i64 most) := cell_at hT1 rfl
   have qhT1_3 : w8.cell? ⟨w.heap.size + 1, 3, none⟩ = some (.slice (some ⟨pb, poff, none⟩) np capp) := cell_at hT1 rfl
   have qhT2_0 : w8.cell? ⟨bp, 0, none⟩ = some (.int .i64 a) := cell_at hT2 rfl
   have qhT2_1 : w8.cell? ⟨bp, 1, none⟩ = some (.int .i64 b) := cell_at hT2 rfl
   have qhT2_2 : w8.cell? ⟨bp, 2, none⟩ = some (.bool hole) := cell_at hT2 rfl
   have hwi : IntKind.i64.wrap ((i : Int) + 1) = ((i + 1 : Nat) : Int) := by rw [wrapI (by omega)]; simp
   by_cases hlt : i < n
   rotate_left
   ·
     obtain rfl : n = i := by omega
     have HF : Hid (Own w8 w7.heap.size u11 n (encI (dlL c l un len most a b hole))) := Lib.hid (by
      have h := HOW.out
      rw [List.take_of_length_le (by rw [Im.delays_len, HLN.out]; exact Nat.le_refl _), ← HDL.out] at h
      exact h)
     obtain ⟨gx, gc, rfl, hrd⟩ := RowI.of_own hn0 HF.out
     have HRD : Hid (RowI w8 w.heap.size gx gc n (dlL c l un len most a b hole)) := Lib.hid (hrd.lower HLE.out)
     clear hrd HF HOW
     go_wp2
     go_ret
     exact ⟨gx, gc, rfl, HRD.out, hB8⟩
   have hi2 : (i : Int) < (n : Int) := by omega
   have hi0 : (0 : Int) ≤ (i : Int) := by omega
   have qi := (hrn.cell hlt).1
   have zi := (hrn.cell hlt).2.2
   have hxb := HNB.out i hlt
   have HMI : Hid ((i : Int).tmod (c : Int) = ((i % c : Nat) : Int) ∧ (i : Int).tdiv (c : Int) = ((i / c : Nat) : Int) ∧ i / c ≤ 256) := Lib.hid ⟨Int.ofNat_tmod _ _, Int.ofNat_tdiv _ _, Nat.le_trans (Nat.div_le_self i c) (by omega)⟩
   generalize hX : Im.at0 ns i = x at qi hxb
   have HX := Lib.hid hX
   clear hX
   have HO2 := HOW
   clear HOW
   go_wp2_with fail
   have hst0 : Hid (false = (List.range 0).any (farT c l ns most i)) := Lib.hid rfl
   go_loopw [14, 15] (fun v k wr => ∃ (k' : Nat) (al : Bool) (nv : Int), k' ≤ n ∧ k = .int .i64 k' ∧ v = .int .i64 nv ∧ Hid (nv = if al = true then -1 else x) ∧ Hid (al = (List.range k').any (farT c l ns most i)) ∧ Hid (Own wr w7.heap.size u11 i (encI ((Im.delays c l ns len most hole).take i))) ∧ Below w8.heap.size w8 wr) (fun _ k _ => n - (intOf k).toNat)
   case atStart => exact ⟨0, false, x, Nat.zero_le _, rfl, rfl, Lib.hid rfl, hst0, HO2, Below.refl _ _⟩
   case round =>
    clear hst0 HO2
    obtain ⟨k, al, nv, hk, rfl, rfl, HNV, HAL, HOW, hbz⟩ := hrel
    obtain ⟨w9, hww⟩ : ∃ W, W = wr := ⟨_, rfl⟩
    subst hww
    have hB9 := hB8.call hbz rfl
    replace hT0 := blkb hT0 hbz
    replace hT1 := blkb hT1 hbz
    replace H := H.below hbz
    replace HP := HP.below hbz
    replace hT2 := blkb hT2 hbz
    replace hrow1 := hrow1.below hbz
    replace hrow2 := hrow2.below hbz
    replace hrn := hrn.below hbz
    replace hbq := hbq.call hbz rfl
    clear hB8
    have qhT0_0 : w9.cell? ⟨w.heap.size, 0, none⟩ = some (.int .i64 c) := cell_at hT0 rfl
    have qhT0_1 : w9.cell? ⟨w.heap.size, 1, none⟩ = some (.int .i64 r) := cell_at hT0 rfl
    have qhT0_2 : w9.cell? ⟨w.heap.size, 2, none⟩ = some (.slice A n cap) := cell_at hT0 rfl
    have qhT1_0 : w9.cell? ⟨w.heap.size + 1, 0, none⟩ = some (.int .i64 un) := cell_at hT1 rfl
    have qhT1_1 : w9.cell? ⟨w.heap.size + 1, 1, none⟩ = some (.int .i64 len) := cell_at hT1 rfl
    have qhT1_2 : w9.cell? ⟨w.heap.size + 1, 2, none⟩ = some (.int .i64 most) := cell_at hT1 rfl
    have qhT1_3 : w9.cell? ⟨w.heap.size + 1, 3, none⟩ = some (.slice (some ⟨pb, poff, none⟩) np capp) := cell_at hT1 rfl
    have qhT2_0 : w9.cell? ⟨bp, 0, none⟩ = some (.int .i64 a) := cell_at hT2 rfl
    have qhT2_1 : w9.cell? ⟨bp, 1, none⟩ = some (.int .i64 b) := cell_at hT2 rfl
    have qhT2_2 : w9.cell? ⟨bp, 2, none⟩ = some (.bool hole) := cell_at hT2 rfl
    have hwk : IntKind.i64.wrap ((k : Int) + 1) = ((k + 1 : Nat) : Int) := by rw [wrapI (by omega)]; simp
    by_cases hlk : k < n
    have how := HOW.out
    clear HOW
    ·
      have hk2 : (k : Int) < (n : Int) := by omega
      have hk0 : (0 : Int) ≤ (k : Int) := by omega
      have HFS := Lib.hid (far_succ c l ns most i k)
      have HFV : Hid (farT c l ns most i k = (decide (0 < Im.cost c l i k) && Im.straight c i k && decide (most < max (Im.at0 ns k - x) (x - Im.at0 ns k)))) := Lib.hid (by unfold farT; rw [HX.out])
      have HSV : Hid (Im.straight c i k = decide (i % c = k % c ∨ i / c = k / c)) := Lib.hid rfl
      have hyb := HNB.out k hlk
      obtain ⟨hmi, hqi, hbi⟩ := HMI.out
      have hmk : (k : Int).tmod (c : Int) = ((k % c : Nat) : Int) := Int.ofNat_tmod _ _
      have hqk : (k : Int).tdiv (c : Int) = ((k / c : Nat) : Int) := Int.ofNat_tdiv _ _
      have hbk : k / c ≤ 256 := Nat.le_trans (Nat.div_le_self k c) (by omega)
      have K61 : Hid (∀ W, RdI W A n l → Calls Tryz.prog 61 #[.agg #[.int .i64 c, .int .i64 r, .slice A n cap], .int .i64 i, .int .i64 k] W fun en w' => en = .returned (.int .i64 (Im.cost c l i k)) ∧ Below W.heap.size W w') := Lib.hid (fun W h => c61 c r A n cap l i k W HG.out hl hc hlt hlk h)
      have HCN : Hid (0 ≤ Im.cost c l i k) := Lib.hid (Im.cost_nonneg HG.out (by rw [HLN.out]; exact hlt) (by rw [HLN.out]; exact hlk))
      generalize Im.cost c l i k = V at K61 HFV HCN
      generalize farT c l ns most i k = F at HFS HFV
      generalize Im.straight c i k = st at HFV HSV
      generalize i % c = mi at hmi HSV
      generalize k % c = mk at hmk HSV
      generalize i / c = di at hqi hbi HSV
      generalize k / c = dk at hqk hbk HSV
      have hwdi : IntKind.i64.wrap ((di : Nat) : Int) = (di : Int) := wrapI (by omega)
      have hwdk : IntKind.i64.wrap ((dk : Nat) : Int) = (dk : Int) := wrapI (by omega)
      clear hbi hbk
      by_cases hcol : mi = mk
      ·
        have hce : ((mi : Int) == (mk : Int)) = true := by simp; omega
        have HST : Hid (st = true) := Lib.hid (by rw [HSV.out]; simp [hcol])
        clear hcol
        have zg := cell_lt qhT0_0
        go_wp2_with fail
        refine wp_region_growG (by kernel_rfl) (by kernel_rfl) ?_
        repeat (go_big_quiet_step ((first | fail)))
        refine wpQuiet_nil (gw_out ?_)
        intro w10 hb21
        clear qhT0_0 qhT0_1 qhT0_2 qhT1_0 qhT1_1 qhT1_2 qhT1_3 qhT2_0 qhT2_1 qhT2_2
        have hS := hb21
        have hB10 := hB9.call hS rfl
        replace hT0 := blkb hT0 hS
        replace hT1 := blkb hT1 hS
        replace H := H.below hS
        replace HP := HP.below hS
        replace hT2 := blkb hT2 hS
        replace hrow1 := hrow1.below hS
        replace hrow2 := hrow2.below hS
        replace hrn := hrn.below hS
        replace hbq := hbq.call hS rfl
        replace hbz := hbz.call hS rfl
        replace how := how.below hS
        clear hS hB9
        have qhT0_0 : w10.cell? ⟨w.heap.size, 0, none⟩ = some (.int .i64 c) := cell_at hT0 rfl
        have qhT0_1 : w10.cell? ⟨w.heap.size, 1, none⟩ = some (.int .i64 r) := cell_at hT0 rfl
        have qhT0_2 : w10.cell? ⟨w.heap.size, 2, none⟩ = some (.slice A n cap) := cell_at hT0 rfl
        have qhT1_0 : w10.cell? ⟨w.heap.size + 1, 0, none⟩ = some (.int .i64 un) := cell_at hT1 rfl
        have qhT1_1 : w10.cell? ⟨w.heap.size + 1, 1, none⟩ = some (.int .i64 len) := cell_at hT1 rfl
        have qhT1_2 : w10.cell? ⟨w.heap.size + 1, 2, none⟩ = some (.int .i64 most) := cell_at hT1 rfl
        have qhT1_3 : w10.cell? ⟨w.heap.size + 1, 3, none⟩ = some (.slice (some ⟨pb, poff, none⟩) np capp) := cell_at hT1 rfl
        have qhT2_0 : w10.cell? ⟨bp, 0, none⟩ = some (.int .i64 a) := cell_at hT2 rfl
        have qhT2_1 : w10.cell? ⟨bp, 1, none⟩ = some (.int .i64 b) := cell_at hT2 rfl
        have qhT2_2 : w10.cell? ⟨bp, 2, none⟩ = some (.bool hole) := cell_at hT2 rfl
        clear zg hb21 hmi hqi hmk hqk hwdi hwdk
        by_cases hV : 0 < V
        rotate_left
        ·
          have HF : Hid (F = false) := Lib.hid (by rw [HFV.out]; simp [hV])
          have hdv : decide (0 < V) = false := by simpa using hV
          clear hV
          go_wp2_with fail
          refine wp_region_plan [(0, true), (1, true), (2, true), (3, false), (4, true), (5, true), (6, true), (7, true), (8, true), (9, true), (10, true), (11, true), (12, true), (13, true), (14, true), (15, true), (16, true), (18, true), (19, true), (17, false), (20, true), (21, true)] w10.heap.size (by kernel_rfl) (by kernel_rfl) (Nat.le_refl _) (fun _ _ d _ _ h => by cases d <;> exact h) ?_
          have hC : Below w10.heap.size w10 w10 := Below.refl _ _
          have zhT0 : w.heap.size < w10.heap.size := (Array.getElem?_eq_some_iff.1 hT0).1
          have zhT1 : w.heap.size + 1 < w10.heap.size := (Array.getElem?_eq_some_iff.1 hT1).1
          have zhT2 : bp < w10.heap.size := (Array.getElem?_eq_some_iff.1 hT2).1
          repeat (first | (refine wpPlanA_skip _ rfl (by rfl) ?_; simp only [Act.put, List.setIfInBounds_toArray, List.set_cons_zero, List.set_cons_succ]) | (refine wpPlanA_soft _ ?_ rfl (by rfl) ?_ ?_; rotate_left; (intro wq hq hcq; go_simp; first | exact rfl | exact ⟨rfl, rfl⟩); simp only [Act.put, List.setIfInBounds_toArray, List.set_cons_zero, List.set_cons_succ]))
          refine wpPlanA_hard _ rfl (by rfl) (fun w11 hS K hK => ?_)
          have hB11 := hB10.call hS rfl
          replace hC := hC.call hS rfl
          replace hT0 := blkb hT0 hS
          replace hT1 := blkb hT1 hS
          replace H := H.below hS
          replace HP := HP.below hS
          replace hT2 := blkb hT2 hS
          replace hrow1 := hrow1.below hS
          replace hrow2 := hrow2.below hS
          replace hrn := hrn.below hS
          replace hbq := hbq.call hS rfl
          replace hbz := hbz.call hS rfl
          replace how := how.below hS
          clear hS hB10
          go_simp
          refine (K61.out _ H).mono ?_
          rintro e w12 ⟨rfl, hb⟩
          have hB12 := hB11.call hb rfl
          replace hC := hC.call hb rfl
          replace hT0 := blkb hT0 hb
          replace hT1 := blkb hT1 hb
          replace H := H.below hb
          replace HP := HP.below hb
          replace hT2 := blkb hT2 hb
          replace hrow1 := hrow1.below hb
          replace hrow2 := hrow2.below hb
          replace hrn := hrn.below hb
          replace hbq := hbq.call hb rfl
          replace hbz := hbz.call hb rfl
          replace how := how.below hb
          clear hb hB11
          refine hK _ _ hC ?_
          clear hK K
          try simp only [Act.put, List.setIfInBounds_toArray, List.set_cons_zero, List.set_cons_succ]
          repeat (first | (refine wpPlanA_skip _ rfl (by rfl) ?_; simp only [Act.put, List.setIfInBounds_toArray, List.set_cons_zero, List.set_cons_succ]) | (refine wpPlanA_soft _ ?_ rfl (by rfl) ?_ ?_; rotate_left; (intro wq hq hcq; go_simp; first | exact rfl | exact ⟨rfl, rfl⟩); simp only [Act.put, List.setIfInBounds_toArray, List.set_cons_zero, List.set_cons_succ]))
          refine wpPlanA_hskip _ rfl (by rfl) ?_
          simp only [Act.put, List.setIfInBounds_toArray, List.set_cons_zero, List.set_cons_succ]
          repeat (first | (refine wpPlanA_skip _ rfl (by rfl) ?_; simp only [Act.put, List.setIfInBounds_toArray, List.set_cons_zero, List.set_cons_succ]) | (refine wpPlanA_soft _ ?_ rfl (by rfl) ?_ ?_; rotate_left; (intro wq hq hcq; go_simp; first | exact rfl | exact ⟨rfl, rfl⟩); simp only [Act.put, List.setIfInBounds_toArray, List.set_cons_zero, List.set_cons_succ]))
          clear qhT0_0 qhT0_1 qhT0_2 qhT1_0 qhT1_1 qhT1_2 qhT1_3 qhT2_0 qhT2_1 qhT2_2
          refine wpPlanA_nil (fun w13 hS => ?_)
          clear hC zhT0 zhT1 zhT2
          have hB13 := hB12.call hS rfl
          replace hT0 := blkb hT0 hS
          replace hT1 := blkb hT1 hS
          replace H := H.below hS
          replace HP := HP.below hS
          replace hT2 := blkb hT2 hS
          replace hrow1 := hrow1.below hS
          replace hrow2 := hrow2.below hS
          replace hrn := hrn.below hS
          replace hbq := hbq.call hS rfl
          replace hbz := hbz.call hS rfl
          replace how := how.below hS
          clear hS hB12
          have qhT0_0 : w13.cell? ⟨w.heap.size, 0, none⟩ = some (.int .i64 c) := cell_at hT0 rfl
          have qhT0_1 : w13.cell? ⟨w.heap.size, 1, none⟩ = some (.int .i64 r) := cell_at hT0 rfl
          have qhT0_2 : w13.cell? ⟨w.heap.size, 2, none⟩ = some (.slice A n cap) := cell_at hT0 rfl
          have qhT1_0 : w13.cell? ⟨w.heap.size + 1, 0, none⟩ = some (.int .i64 un) := cell_at hT1 rfl
          have qhT1_1 : w13.cell? ⟨w.heap.size + 1, 1, none⟩ = some (.int .i64 len) := cell_at hT1 rfl
          have qhT1_2 : w13.cell? ⟨w.heap.size + 1, 2, none⟩ = some (.int .i64 most) := cell_at hT1 rfl
          have qhT1_3 : w13.cell? ⟨w.heap.size + 1, 3, none⟩ = some (.slice (some ⟨pb, poff, none⟩) np capp) := cell_at hT1 rfl
          have qhT2_0 : w13.cell? ⟨bp, 0, none⟩ = some (.int .i64 a) := cell_at hT2 rfl
          have qhT2_1 : w13.cell? ⟨bp, 1, none⟩ = some (.int .i64 b) := cell_at hT2 rfl
          have qhT2_2 : w13.cell? ⟨bp, 2, none⟩ = some (.bool hole) := cell_at hT2 rfl
          have HOW := Lib.hid how
          have HBZ := Lib.hid hbz
          clear how hbz
          go_wp2
          go_roundw
          case rel => exact ⟨k + 1, al, _, by omega, by go_num, rfl, HNV, Lib.hid (by rw [HFS.out, HF.out, Bool.or_false]; exact HAL.out), HOW, HBZ.out⟩
          case measure => simp [intOf]; omega
        have hdv : decide (0 < V) = true := by simpa using hV
        have qi5 := (hrn.cell hlt).1
        rw [HX.out] at qi5
        have qk5 := (hrn.cell hlk).1
        have zi5 := (hrn.cell hlk).2.2
        have HMX : Hid (∀ y : Int, max (y - x) (x - y) = max (x - y) (y - x)) := Lib.hid (fun y => Int.max_comm _ _)
        have HFW : Hid (F = decide (most < max (x - Im.at0 ns k) (Im.at0 ns k - x))) := Lib.hid (by rw [HFV.out, HST.out, hdv, HMX.out]; simp)
        generalize Im.at0 ns k = y at qk5 hyb HFW
        generalize hM : max (x - y) (y - x) = M at HFW
        have HM := Lib.hid hM
        clear hM hV
        by_cases hfar : most < M
        ·
          have hdf : decide (most < M) = true := by simpa using hfar
          have HF : Hid (F = true) := Lib.hid (by rw [HFW.out, hdf])
          clear hfar
          go_wp2_with fail
          refine wp_region_plan [(0, true), (1, true), (2, true), (3, false), (4, true), (5, true), (6, true), (7, true), (8, true), (9, true), (10, true), (11, true), (12, true), (13, true), (14, true), (15, true), (16, true), (18, true), (19, true), (17, false), (20, true), (21, true)] w10.heap.size (by kernel_rfl) (by kernel_rfl) (Nat.le_refl _) (fun _ _ d _ _ h => by cases d <;> exact h) ?_
          have hC : Below w10.heap.size w10 w10 := Below.refl _ _
          have zhT0 : w.heap.size < w10.heap.size := (Array.getElem?_eq_some_iff.1 hT0).1
          have zhT1 : w.heap.size + 1 < w10.heap.size := (Array.getElem?_eq_some_iff.1 hT1).1
          have zhT2 : bp < w10.heap.size := (Array.getElem?_eq_some_iff.1 hT2).1
          repeat (first | (refine wpPlanA_skip _ rfl (by rfl) ?_; simp only [Act.put, List.setIfInBounds_toArray, List.set_cons_zero, List.set_cons_succ]) | (refine wpPlanA_soft _ ?_ rfl (by rfl) ?_ ?_; rotate_left; (intro wq hq hcq; go_simp; first | exact rfl | exact ⟨rfl, rfl⟩); simp only [Act.put, List.setIfInBounds_toArray, List.set_cons_zero, List.set_cons_succ]))
          refine wpPlanA_hard _ rfl (by rfl) (fun w11 hS K hK => ?_)
          have hB11 := hB10.call hS rfl
          replace hC := hC.call hS rfl
          replace hT0 := blkb hT0 hS
          replace hT1 := blkb hT1 hS
          replace H := H.below hS
          replace HP := HP.below hS
          replace hT2 := blkb hT2 hS
          replace hrow1 := hrow1.below hS
          replace hrow2 := hrow2.below hS
          replace hrn := hrn.below hS
          replace hbq := hbq.call hS rfl
          replace hbz := hbz.call hS rfl
          replace how := how.below hS
          clear hS hB10
          go_simp
          refine (K61.out _ H).mono ?_
          rintro e w12 ⟨rfl, hb⟩
          have hB12 := hB11.call hb rfl
          replace hC := hC.call hb rfl
          replace hT0 := blkb hT0 hb
          replace hT1 := blkb hT1 hb
          replace H := H.below hb
          replace HP := HP.below hb
          replace hT2 := blkb hT2 hb
          replace hrow1 := hrow1.below hb
          replace hrow2 := hrow2.below hb
          replace hrn := hrn.below hb
          replace hbq := hbq.call hb rfl
          replace hbz := hbz.call hb rfl
          replace how := how.below hb
          clear hb hB11
          refine hK _ _ hC ?_
          clear hK K
          try simp only [Act.put, List.setIfInBounds_toArray, List.set_cons_zero, List.set_cons_succ]
          repeat (first | (refine wpPlanA_skip _ rfl (by rfl) ?_; simp only [Act.put, List.setIfInBounds_toArray, List.set_cons_zero, List.set_cons_succ]) | (refine wpPlanA_soft _ ?_ rfl (by rfl) ?_ ?_; rotate_left; (intro wq hq hcq; go_simp; first | exact rfl | exact ⟨rfl, rfl⟩); simp only [Act.put, List.setIfInBounds_toArray, List.set_cons_zero, List.set_cons_succ]))
          clear qi5 qk5 zi5
          refine wpPlanA_hard _ rfl (by rfl) (fun w13 hS K hK => ?_)
          have hB13 := hB12.call hS rfl
          replace hC := hC.call hS rfl
          replace hT0 := blkb hT0 hS
          replace hT1 := blkb hT1 hS
          replace H := H.below hS
          replace HP := HP.below hS
          replace hT2 := blkb hT2 hS
          replace hrow1 := hrow1.below hS
          replace hrow2 := hrow2.below hS
          replace hrn := hrn.below hS
          replace hbq := hbq.call hS rfl
          replace hbz := hbz.call hS rfl
          replace how := how.below hS
          clear hS hB12
          go_simp
          refine (c100 x y _ (by omega) (by omega)).mono ?_
          rintro e w' ⟨rfl, rfl⟩
          refine hK _ _ hC ?_
          clear hK K
          try simp only [Act.put, List.setIfInBounds_toArray, List.set_cons_zero, List.set_cons_succ]
          rw [HM.out]
          repeat (first | (refine wpPlanA_skip _ rfl (by rfl) ?_; simp only [Act.put, List.setIfInBounds_toArray, List.set_cons_zero, List.set_cons_succ]) | (refine wpPlanA_soft _ ?_ rfl (by rfl) ?_ ?_; rotate_left; (intro wq hq hcq; go_simp; first | exact rfl | exact ⟨rfl, rfl⟩); simp only [Act.put, List.setIfInBounds_toArray, List.set_cons_zero, List.set_cons_succ]))
          clear qhT0_0 qhT0_1 qhT0_2 qhT1_0 qhT1_1 qhT1_2 qhT1_3 qhT2_0 qhT2_1 qhT2_2
          refine wpPlanA_nil (fun w14 hS => ?_)
          clear hC zhT0 zhT1 zhT2
          have hB14 := hB13.call hS rfl
          replace hT0 := blkb hT0 hS
          replace hT1 := blkb hT1 hS
          replace H := H.below hS
          replace HP := HP.below hS
          replace hT2 := blkb hT2 hS
          replace hrow1 := hrow1.below hS
          replace hrow2 := hrow2.below hS
          replace hrn := hrn.below hS
          replace hbq := hbq.call hS rfl
          replace hbz := hbz.call hS rfl
          replace how := how.below hS
          clear hS hB13
          have qhT0_0 : w14.cell? ⟨w.heap.size, 0, none⟩ = some (.int .i64 c) := cell_at hT0 rfl
          have qhT0_1 : w14.cell? ⟨w.heap.size, 1, none⟩ = some (.int .i64 r) := cell_at hT0 rfl
          have qhT0_2 : w14.cell? ⟨w.heap.size, 2, none⟩ = some (.slice A n cap) := cell_at hT0 rfl
          have qhT1_0 : w14.cell? ⟨w.heap.size + 1, 0, none⟩ = some (.int .i64 un) := cell_at hT1 rfl
          have qhT1_1 : w14.cell? ⟨w.heap.size + 1, 1, none⟩ = some (.int .i64 len) := cell_at hT1 rfl
          have qhT1_2 : w14.cell? ⟨w.heap.size + 1, 2, none⟩ = some (.int .i64 most) := cell_at hT1 rfl
          have qhT1_3 : w14.cell? ⟨w.heap.size + 1, 3, none⟩ = some (.slice (some ⟨pb, poff, none⟩) np capp) := cell_at hT1 rfl
          have qhT2_0 : w14.cell? ⟨bp, 0, none⟩ = some (.int .i64 a) := cell_at hT2 rfl
          have qhT2_1 : w14.cell? ⟨bp, 1, none⟩ = some (.int .i64 b) := cell_at hT2 rfl
          have qhT2_2 : w14.cell? ⟨bp, 2, none⟩ = some (.bool hole) := cell_at hT2 rfl
          have HOW := Lib.hid how
          have HBZ := Lib.hid hbz
          clear how hbz
          go_wp2
          go_roundw
          case rel => exact ⟨k + 1, true, _, by omega, by go_num, rfl, Lib.hid rfl, Lib.hid (by rw [HFS.out, HF.out, Bool.or_true]), HOW, HBZ.out⟩
          case measure => simp [intOf]; omega
        ·
          have hdf : decide (most < M) = false := by simpa using hfar
          have HF : Hid (F = false) := Lib.hid (by rw [HFW.out, hdf])
          clear hfar
          go_wp2_with fail
          refine wp_region_plan [(0, true), (1, true), (2, true), (3, false), (4, true), (5, true), (6, true), (7, true), (8, true), (9, true), (10, true), (11, true), (12, true), (13, true), (14, true), (15, true), (16, true), (18, true), (19, true), (17, false), (20, true), (21, true)] w10.heap.size (by kernel_rfl) (by kernel_rfl) (Nat.le_refl _) (fun _ _ d _ _ h => by cases d <;> exact h) ?_
          have hC : Below w10.heap.size w10 w10 := Below.refl _ _
          have zhT0 : w.heap.size < w10.heap.size := (Array.getElem?_eq_some_iff.1 hT0).1
          have zhT1 : w.heap.size + 1 < w10.heap.size := (Array.getElem?_eq_some_iff.1 hT1).1
          have zhT2 : bp < w10.heap.size := (Array.getElem?_eq_some_iff.1 hT2).1
          repeat (first | (refine wpPlanA_skip _ rfl (by rfl) ?_; simp only [Act.put, List.setIfInBounds_toArray, List.set_cons_zero, List.set_cons_succ]) | (refine wpPlanA_soft _ ?_ rfl (by rfl) ?_ ?_; rotate_left; (intro wq hq hcq; go_simp; first | exact rfl | exact ⟨rfl, rfl⟩); simp only [Act.put, List.setIfInBounds_toArray, List.set_cons_zero, List.set_cons_succ]))
          refine wpPlanA_hard _ rfl (by rfl) (fun w11 hS K hK => ?_)
          have hB11 := hB10.call hS rfl
          replace hC := hC.call hS rfl
          replace hT0 := blkb hT0 hS
          replace hT1 := blkb hT1 hS
          replace H := H.below hS
          replace HP := HP.below hS
          replace hT2 := blkb hT2 hS
          replace hrow1 := hrow1.below hS
          replace hrow2 := hrow2.below hS
          replace hrn := hrn.below hS
          replace hbq := hbq.call hS rfl
          replace hbz := hbz.call hS rfl
          replace how := how.below hS
          clear hS hB10
          go_simp
          refine (K61.out _ H).mono ?_
          rintro e w12 ⟨rfl, hb⟩
          have hB12 := hB11.call hb rfl
          replace hC := hC.call hb rfl
          replace hT0 := blkb hT0 hb
          replace hT1 := blkb hT1 hb
          replace H := H.below hb
          replace HP := HP.below hb
          replace hT2 := blkb hT2 hb
          replace hrow1 := hrow1.below hb
          replace hrow2 := hrow2.below hb
          replace hrn := hrn.below hb
          replace hbq := hbq.call hb rfl
          replace hbz := hbz.call hb rfl
          replace how := how.below hb
          clear hb hB11
          refine hK _ _ hC ?_
          clear hK K
          try simp only [Act.put, List.setIfInBounds_toArray, List.set_cons_zero, List.set_cons_succ]
          repeat (first | (refine wpPlanA_skip _ rfl (by rfl) ?_; simp only [Act.put, List.setIfInBounds_toArray, List.set_cons_zero, List.set_cons_succ]) | (refine wpPlanA_soft _ ?_ rfl (by rfl) ?_ ?_; rotate_left; (intro wq hq hcq; go_simp; first | exact rfl | exact ⟨rfl, rfl⟩); simp only [Act.put, List.setIfInBounds_toArray, List.set_cons_zero, List.set_cons_succ]))
          clear qi5 qk5 zi5
          refine wpPlanA_hard _ rfl (by rfl) (fun w13 hS K hK => ?_)
          have hB13 := hB12.call hS rfl
          replace hC := hC.call hS rfl
          replace hT0 := blkb hT0 hS
          replace hT1 := blkb hT1 hS
          replace H := H.below hS
          replace HP := HP.below hS
          replace hT2 := blkb hT2 hS
          replace hrow1 := hrow1.below hS
          replace hrow2 := hrow2.below hS
          replace hrn := hrn.below hS
          replace hbq := hbq.call hS rfl
          replace hbz := hbz.call hS rfl
          replace how := how.below hS
          clear hS hB12
          go_simp
          refine (c100 x y _ (by omega) (by omega)).mono ?_
          rintro e w' ⟨rfl, rfl⟩
          refine hK _ _ hC ?_
          clear hK K
          try simp only [Act.put, List.setIfInBounds_toArray, List.set_cons_zero, List.set_cons_succ]
          rw [HM.out]
          repeat (first | (refine wpPlanA_skip _ rfl (by rfl) ?_; simp only [Act.put, List.setIfInBounds_toArray, List.set_cons_zero, List.set_cons_succ]) | (refine wpPlanA_soft _ ?_ rfl (by rfl) ?_ ?_; rotate_left; (intro wq hq hcq; go_simp; first | exact rfl | exact ⟨rfl, rfl⟩); simp only [Act.put, List.setIfInBounds_toArray, List.set_cons_zero, List.set_cons_succ]))
          clear qhT0_0 qhT0_1 qhT0_2 qhT1_0 qhT1_1 qhT1_2 qhT1_3 qhT2_0 qhT2_1 qhT2_2
          refine wpPlanA_nil (fun w14 hS => ?_)
          clear hC zhT0 zhT1 zhT2
          have hB14 := hB13.call hS rfl
          replace hT0 := blkb hT0 hS
          replace hT1 := blkb hT1 hS
          replace H := H.below hS
          replace HP := HP.below hS
          replace hT2 := blkb hT2 hS
          replace hrow1 := hrow1.below hS
          replace hrow2 := hrow2.below hS
          replace hrn := hrn.below hS
          replace hbq := hbq.call hS rfl
          replace hbz := hbz.call hS rfl
          replace how := how.below hS
          clear hS hB13
          have qhT0_0 : w14.cell? ⟨w.heap.size, 0, none⟩ = some (.int .i64 c) := cell_at hT0 rfl
          have qhT0_1 : w14.cell? ⟨w.heap.size, 1, none⟩ = some (.int .i64 r) := cell_at hT0 rfl
          have qhT0_2 : w14.cell? ⟨w.heap.size, 2, none⟩ = some (.slice A n cap) := cell_at hT0 rfl
          have qhT1_0 : w14.cell? ⟨w.heap.size + 1, 0, none⟩ = some (.int .i64 un) := cell_at hT1 rfl
          have qhT1_1 : w14.cell? ⟨w.heap.size + 1, 1, none⟩ = some (.int .i64 len) := cell_at hT1 rfl
          have qhT1_2 : w14.cell? ⟨w.heap.size + 1, 2, none⟩ = some (.int .i64 most) := cell_at hT1 rfl
          have qhT1_3 : w14.cell? ⟨w.heap.size + 1, 3, none⟩ = some (.slice (some ⟨pb, poff, none⟩) np capp) := cell_at hT1 rfl
          have qhT2_0 : w14.cell? ⟨bp, 0, none⟩ = some (.int .i64 a) := cell_at hT2 rfl
          have qhT2_1 : w14.cell? ⟨bp, 1, none⟩ = some (.int .i64 b) := cell_at hT2 rfl
          have qhT2_2 : w14.cell? ⟨bp, 2, none⟩ = some (.bool hole) := cell_at hT2 rfl
          have HOW := Lib.hid how
          have HBZ := Lib.hid hbz
          clear how hbz
          go_wp2
          go_roundw
          case rel => exact ⟨k + 1, al, _, by omega, by go_num, rfl, HNV, Lib.hid (by rw [HFS.out, HF.out, Bool.or_false]; exact HAL.out), HOW, HBZ.out⟩
          case measure => simp [intOf]; omega
      ·
        have hce : ((mi : Int) == (mk : Int)) = false := by simp; omega
        by_cases hrw : di = dk
        ·
          have hre : ((di : Int) == (dk : Int)) = true := by simp; omega
          have HST : Hid (st = true) := Lib.hid (by rw [HSV.out]; simp [hrw])
          clear hcol hrw
          have zg := cell_lt qhT0_0
          go_wp2_with fail
          refine wp_region_growG (by kernel_rfl) (by kernel_rfl) ?_
          repeat (go_big_quiet_step ((first | fail)))
          refine wpQuiet_nil (gw_out ?_)
          intro w10 hb21
          clear qhT0_0 qhT0_1 qhT0_2 qhT1_0 qhT1_1 qhT1_2 qhT1_3 qhT2_0 qhT2_1 qhT2_2
          have hS := hb21
          have hB10 := hB9.call hS rfl
          replace hT0 := blkb hT0 hS
          replace hT1 := blkb hT1 hS
          replace H := H.below hS
          replace HP := HP.below hS
          replace hT2 := blkb hT2 hS
          replace hrow1 := hrow1.below hS
          replace hrow2 := hrow2.below hS
          replace hrn := hrn.below hS
          replace hbq := hbq.call hS rfl
          replace hbz := hbz.call hS rfl
          replace how := how.below hS
          clear hS hB9
          have qhT0_0 : w10.cell? ⟨w.heap.size, 0, none⟩ = some (.int .i64 c) := cell_at hT0 rfl
          have qhT0_1 : w10.cell? ⟨w.heap.size, 1, none⟩ = some (.int .i64 r) := cell_at hT0 rfl
          have qhT0_2 : w10.cell? ⟨w.heap.size, 2, none⟩ = some (.slice A n cap) := cell_at hT0 rfl
          have qhT1_0 : w10.cell? ⟨w.heap.size + 1, 0, none⟩ = some (.int .i64 un) := cell_at hT1 rfl
          have qhT1_1 : w10.cell? ⟨w.heap.size + 1, 1, none⟩ = some (.int .i64 len) := cell_at hT1 rfl
          have qhT1_2 : w10.cell? ⟨w.heap.size + 1, 2, none⟩ = some (.int .i64 most) := cell_at hT1 rfl
          have qhT1_3 : w10.cell? ⟨w.heap.size + 1, 3, none⟩ = some (.slice (some ⟨pb, poff, none⟩) np capp) := cell_at hT1 rfl
          have qhT2_0 : w10.cell? ⟨bp, 0, none⟩ = some (.int .i64 a) := cell_at hT2 rfl
          have qhT2_1 : w10.cell? ⟨bp, 1, none⟩ = some (.int .i64 b) := cell_at hT2 rfl
          have qhT2_2 : w10.cell? ⟨bp, 2, none⟩ = some (.bool hole) := cell_at hT2 rfl
          clear zg hb21 hmi hqi hmk hqk hwdi hwdk
          by_cases hV : 0 < V
          rotate_left
          ·
            have HF : Hid (F = false) := Lib.hid (by rw [HFV.out]; simp [hV])
            have hdv : decide (0 < V) = false := by simpa using hV
            clear hV
            go_wp2_with fail
            refine wp_region_plan [(0, true), (1, true), (2, true), (3, false), (4, true), (5, true), (6, true), (7, true), (8, true), (9, true), (10, true), (11, true), (12, true), (13, true), (14, true), (15, true), (16, true), (18, true), (19, true), (17, false), (20, true), (21, true)] w10.heap.size (by kernel_rfl) (by kernel_rfl) (Nat.le_refl _) (fun _ _ d _ _ h => by cases d <;> exact h) ?_
            have hC : Below w10.heap.size w10 w10 := Below.refl _ _
            have zhT0 : w.heap.size < w10.heap.size := (Array.getElem?_eq_some_iff.1 hT0).1
            have zhT1 : w.heap.size + 1 < w10.heap.size := (Array.getElem?_eq_some_iff.1 hT1).1
            have zhT2 : bp < w10.heap.size := (Array.getElem?_eq_some_iff.1 hT2).1
            repeat (first | (refine wpPlanA_skip _ rfl (by rfl) ?_; simp only [Act.put, List.setIfInBounds_toArray, List.set_cons_zero, List.set_cons_succ]) | (refine wpPlanA_soft _ ?_ rfl (by rfl) ?_ ?_; rotate_left; (intro wq hq hcq; go_simp; first | exact rfl | exact ⟨rfl, rfl⟩); simp only [Act.put, List.setIfInBounds_toArray, List.set_cons_zero, List.set_cons_succ]))
            refine wpPlanA_hard _ rfl (by rfl) (fun w11 hS K hK => ?_)
            have hB11 := hB10.call hS rfl
            replace hC := hC.call hS rfl
            replace hT0 := blkb hT0 hS
            replace hT1 := blkb hT1 hS
            replace H := H.below hS
            replace HP := HP.below hS
            replace hT2 := blkb hT2 hS
            replace hrow1 := hrow1.below hS
            replace hrow2 := hrow2.below hS
            replace hrn := hrn.below hS
            replace hbq := hbq.call hS rfl
            replace hbz := hbz.call hS rfl
            replace how := how.below hS
            clear hS hB10
            go_simp
            refine (K61.out _ H).mono ?_
            rintro e w12 ⟨rfl, hb⟩
            have hB12 := hB11.call hb rfl
            replace hC := hC.call hb rfl
            replace hT0 := blkb hT0 hb
            replace hT1 := blkb hT1 hb
            replace H := H.below hb
            replace HP := HP.below hb
            replace hT2 := blkb hT2 hb
            replace hrow1 := hrow1.below hb
            replace hrow2 := hrow2.below hb
            replace hrn := hrn.below hb
            replace hbq := hbq.call hb rfl
            replace hbz := hbz.call hb rfl
            replace how := how.below hb
            clear hb hB11
            refine hK _ _ hC ?_
            clear hK K
            try simp only [Act.put, List.setIfInBounds_toArray, List.set_cons_zero, List.set_cons_succ]
            repeat (first | (refine wpPlanA_skip _ rfl (by rfl) ?_; simp only [Act.put, List.setIfInBounds_toArray, List.set_cons_zero, List.set_cons_succ]) | (refine wpPlanA_soft _ ?_ rfl (by rfl) ?_ ?_; rotate_left; (intro wq hq hcq; go_simp; first | exact rfl | exact ⟨rfl, rfl⟩); simp only [Act.put, List.setIfInBounds_toArray, List.set_cons_zero, List.set_cons_succ]))
            refine wpPlanA_hskip _ rfl (by rfl) ?_
            simp only [Act.put, List.setIfInBounds_toArray, List.set_cons_zero, List.set_cons_succ]
            repeat (first | (refine wpPlanA_skip _ rfl (by rfl) ?_; simp only [Act.put, List.setIfInBounds_toArray, List.set_cons_zero, List.set_cons_succ]) | (refine wpPlanA_soft _ ?_ rfl (by rfl) ?_ ?_; rotate_left; (intro wq hq hcq; go_simp; first | exact rfl | exact ⟨rfl, rfl⟩); simp only [Act.put, List.setIfInBounds_toArray, List.set_cons_zero, List.set_cons_succ]))
            clear qhT0_0 qhT0_1 qhT0_2 qhT1_0 qhT1_1 qhT1_2 qhT1_3 qhT2_0 qhT2_1 qhT2_2
            refine wpPlanA_nil (fun w13 hS => ?_)
            clear hC zhT0 zhT1 zhT2
            have hB13 := hB12.call hS rfl
            replace hT0 := blkb hT0 hS
            replace hT1 := blkb hT1 hS
            replace H := H.below hS
            replace HP := HP.below hS
            replace hT2 := blkb hT2 hS
            replace hrow1 := hrow1.below hS
            replace hrow2 := hrow2.below hS
            replace hrn := hrn.below hS
            replace hbq := hbq.call hS rfl
            replace hbz := hbz.call hS rfl
            replace how := how.below hS
            clear hS hB12
            have qhT0_0 : w13.cell? ⟨w.heap.size, 0, none⟩ = some (.int .i64 c) := cell_at hT0 rfl
            have qhT0_1 : w13.cell? ⟨w.heap.size, 1, none⟩ = some (.int .i64 r) := cell_at hT0 rfl
            have qhT0_2 : w13.cell? ⟨w.heap.size, 2, none⟩ = some (.slice A n cap) := cell_at hT0 rfl
            have qhT1_0 : w13.cell? ⟨w.heap.size + 1, 0, none⟩ = some (.int .i64 un) := cell_at hT1 rfl
            have qhT1_1 : w13.cell? ⟨w.heap.size + 1, 1, none⟩ = some (.int .i64 len) := cell_at hT1 rfl
            have qhT1_2 : w13.cell? ⟨w.heap.size + 1, 2, none⟩ = some (.int .i64 most) := cell_at hT1 rfl
            have qhT1_3 : w13.cell? ⟨w.heap.size + 1, 3, none⟩ = some (.slice (some ⟨pb, poff, none⟩) np capp) := cell_at hT1 rfl
            have qhT2_0 : w13.cell? ⟨bp, 0, none⟩ = some (.int .i64 a) := cell_at hT2 rfl
            have qhT2_1 : w13.cell? ⟨bp, 1, none⟩ = some (.int .i64 b) := cell_at hT2 rfl
            have qhT2_2 : w13.cell? ⟨bp, 2, none⟩ = some (.bool hole) := cell_at hT2 rfl
            have HOW := Lib.hid how
            have HBZ := Lib.hid hbz
            clear how hbz
            go_wp2
            go_roundw
            case rel => exact ⟨k + 1, al, _, by omega, by go_num, rfl, HNV, Lib.hid (by rw [HFS.out, HF.out, Bool.or_false]; exact HAL.out), HOW, HBZ.out⟩
            case measure => simp [intOf]; omega
          have hdv : decide (0 < V) = true := by simpa using hV
          have qi5 := (hrn.cell hlt).1
          rw [HX.out] at qi5
          have qk5 := (hrn.cell hlk).1
          have zi5 := (hrn.cell hlk).2.2
          have HMX : Hid (∀ y : Int, max (y - x) (x - y) = max (x - y) (y - x)) := Lib.hid (fun y => Int.max_comm _ _)
          have HFW : Hid (F = decide (most < max (x - Im.at0 ns k) (Im.at0 ns k - x))) := Lib.hid (by rw [HFV.out, HST.out, hdv, HMX.out]; simp)
          generalize Im.at0 ns k = y at qk5 hyb HFW
          generalize hM : max (x - y) (y - x) = M at HFW
          have HM := Lib.hid hM
          clear hM hV
          by_cases hfar : most < M
          ·
            have hdf : decide (most < M) = true := by simpa using hfar
            have HF : Hid (F = true) := Lib.hid (by rw [HFW.out, hdf])
            clear hfar
            go_wp2_with fail
            refine wp_region_plan [(0, true), (1, true), (2, true), (3, false), (4, true), (5, true), (6, true), (7, true), (8, true), (9, true), (10, true), (11, true), (12, true), (13, true), (14, true), (15, true), (16, true), (18, true), (19, true), (17, false), (20, true), (21, true)] w10.heap.size (by kernel_rfl) (by kernel_rfl) (Nat.le_refl _) (fun _ _ d _ _ h => by cases d <;> exact h) ?_
            have hC : Below w10.heap.size w10 w10 := Below.refl _ _
            have zhT0 : w.heap.size < w10.heap.size := (Array.getElem?_eq_some_iff.1 hT0).1
            have zhT1 : w.heap.size + 1 < w10.heap.size := (Array.getElem?_eq_some_iff.1 hT1).1
            have zhT2 : bp < w10.heap.size := (Array.getElem?_eq_some_iff.1 hT2).1
            repeat (first | (refine wpPlanA_skip _ rfl (by rfl) ?_; simp only [Act.put, List.setIfInBounds_toArray, List.set_cons_zero, List.set_cons_succ]) | (refine wpPlanA_soft _ ?_ rfl (by rfl) ?_ ?_; rotate_left; (intro wq hq hcq; go_simp; first | exact rfl | exact ⟨rfl, rfl⟩); simp only [Act.put, List.setIfInBounds_toArray, List.set_cons_zero, List.set_cons_succ]))
            refine wpPlanA_hard _ rfl (by rfl) (fun w11 hS K hK => ?_)
            have hB11 := hB10.call hS rfl
            replace hC := hC.call hS rfl
            replace hT0 := blkb hT0 hS
            replace hT1 := blkb hT1 hS
            replace H := H.below hS
            replace HP := HP.below hS
            replace hT2 := blkb hT2 hS
            replace hrow1 := hrow1.below hS
            replace hrow2 := hrow2.below hS
            replace hrn := hrn.below hS
            replace hbq := hbq.call hS rfl
            replace hbz := hbz.call hS rfl
            replace how := how.below hS
            clear hS hB10
            go_simp
            refine (K61.out _ H).mono ?_
            rintro e w12 ⟨rfl, hb⟩
            have hB12 := hB11.call hb rfl
            replace hC := hC.call hb rfl
            replace hT0 := blkb hT0 hb
            replace hT1 := blkb hT1 hb
            replace H := H.below hb
            replace HP := HP.below hb
            replace hT2 := blkb hT2 hb
            replace hrow1 := hrow1.below hb
            replace hrow2 := hrow2.below hb
            replace hrn := hrn.below hb
            replace hbq := hbq.call hb rfl
            replace hbz := hbz.call hb rfl
            replace how := how.below hb
            clear hb hB11
            refine hK _ _ hC ?_
            clear hK K
            try simp only [Act.put, List.setIfInBounds_toArray, List.set_cons_zero, List.set_cons_succ]
            repeat (first | (refine wpPlanA_skip _ rfl (by rfl) ?_; simp only [Act.put, List.setIfInBounds_toArray, List.set_cons_zero, List.set_cons_succ]) | (refine wpPlanA_soft _ ?_ rfl (by rfl) ?_ ?_; rotate_left; (intro wq hq hcq; go_simp; first | exact rfl | exact ⟨rfl, rfl⟩); simp only [Act.put, List.setIfInBounds_toArray, List.set_cons_zero, List.set_cons_succ]))
            clear qi5 qk5 zi5
            refine wpPlanA_hard _ rfl (by rfl) (fun w13 hS K hK => ?_)
            have hB13 := hB12.call hS rfl
            replace hC := hC.call hS rfl
            replace hT0 := blkb hT0 hS
            replace hT1 := blkb hT1 hS
            replace H := H.below hS
            replace HP := HP.below hS
            replace hT2 := blkb hT2 hS
            replace hrow1 := hrow1.below hS
            replace hrow2 := hrow2.below hS
            replace hrn := hrn.below hS
            replace hbq := hbq.call hS rfl
            replace hbz := hbz.call hS rfl
            replace how := how.below hS
            clear hS hB12
            go_simp
            refine (c100 x y _ (by omega) (by omega)).mono ?_
            rintro e w' ⟨rfl, rfl⟩
            refine hK _ _ hC ?_
            clear hK K
            try simp only [Act.put, List.setIfInBounds_toArray, List.set_cons_zero, List.set_cons_succ]
            rw [HM.out]
            repeat (first | (refine wpPlanA_skip _ rfl (by rfl) ?_; simp only [Act.put, List.setIfInBounds_toArray, List.set_cons_zero, List.set_cons_succ]) | (refine wpPlanA_soft _ ?_ rfl (by rfl) ?_ ?_; rotate_left; (intro wq hq hcq; go_simp; first | exact rfl | exact ⟨rfl, rfl⟩); simp only [Act.put, List.setIfInBounds_toArray, List.set_cons_zero, List.set_cons_succ]))
            clear qhT0_0 qhT0_1 qhT0_2 qhT1_0 qhT1_1 qhT1_2 qhT1_3 qhT2_0 qhT2_1 qhT2_2
            refine wpPlanA_nil (fun w14 hS => ?_)
            clear hC zhT0 zhT1 zhT2
            have hB14 := hB13.call hS rfl
            replace hT0 := blkb hT0 hS
            replace hT1 := blkb hT1 hS
            replace H := H.below hS
            replace HP := HP.below hS
            replace hT2 := blkb hT2 hS
            replace hrow1 := hrow1.below hS
            replace hrow2 := hrow2.below hS
            replace hrn := hrn.below hS
            replace hbq := hbq.call hS rfl
            replace hbz := hbz.call hS rfl
            replace how := how.below hS
            clear hS hB13
            have qhT0_0 : w14.cell? ⟨w.heap.size, 0, none⟩ = some (.int .i64 c) := cell_at hT0 rfl
            have qhT0_1 : w14.cell? ⟨w.heap.size, 1, none⟩ = some (.int .i64 r) := cell_at hT0 rfl
            have qhT0_2 : w14.cell? ⟨w.heap.size, 2, none⟩ = some (.slice A n cap) := cell_at hT0 rfl
            have qhT1_0 : w14.cell? ⟨w.heap.size + 1, 0, none⟩ = some (.int .i64 un) := cell_at hT1 rfl
            have qhT1_1 : w14.cell? ⟨w.heap.size + 1, 1, none⟩ = some (.int .i64 len) := cell_at hT1 rfl
            have qhT1_2 : w14.cell? ⟨w.heap.size + 1, 2, none⟩ = some (.int .i64 most) := cell_at hT1 rfl
            have qhT1_3 : w14.cell? ⟨w.heap.size + 1, 3, none⟩ = some (.slice (some ⟨pb, poff, none⟩) np capp) := cell_at hT1 rfl
            have qhT2_0 : w14.cell? ⟨bp, 0, none⟩ = some (.int .i64 a) := cell_at hT2 rfl
            have qhT2_1 : w14.cell? ⟨bp, 1, none⟩ = some (.int .i64 b) := cell_at hT2 rfl
            have qhT2_2 : w14.cell? ⟨bp, 2, none⟩ = some (.bool hole) := cell_at hT2 rfl
            have HOW := Lib.hid how
            have HBZ := Lib.hid hbz
            clear how hbz
            go_wp2
            go_roundw
            case rel => exact ⟨k + 1, true, _, by omega, by go_num, rfl, Lib.hid rfl, Lib.hid (by rw [HFS.out, HF.out, Bool.or_true]), HOW, HBZ.out⟩
            case measure => simp [intOf]; omega
          ·
            have hdf : decide (most < M) = false := by simpa using hfar
            have HF : Hid (F = false) := Lib.hid (by rw [HFW.out, hdf])
            clear hfar
            go_wp2_with fail
            refine wp_region_plan [(0, true), (1, true), (2, true), (3, false), (4, true), (5, true), (6, true), (7, true), (8, true), (9, true), (10, true), (11, true), (12, true), (13, true), (14, true), (15, true), (16, true), (18, true), (19, true), (17, false), (20, true), (21, true)] w10.heap.size (by kernel_rfl) (by kernel_rfl) (Nat.le_refl _) (fun _ _ d _ _ h => by cases d <;> exact h) ?_
            have hC : Below w10.heap.size w10 w10 := Below.refl _ _
            have zhT0 : w.heap.size < w10.heap.size := (Array.getElem?_eq_some_iff.1 hT0).1
            have zhT1 : w.heap.size + 1 < w10.heap.size := (Array.getElem?_eq_some_iff.1 hT1).1
            have zhT2 : bp < w10.heap.size := (Array.getElem?_eq_some_iff.1 hT2).1
            repeat (first | (refine wpPlanA_skip _ rfl (by rfl) ?_; simp only [Act.put, List.setIfInBounds_toArray, List.set_cons_zero, List.set_cons_succ]) | (refine wpPlanA_soft _ ?_ rfl (by rfl) ?_ ?_; rotate_left; (intro wq hq hcq; go_simp; first | exact rfl | exact ⟨rfl, rfl⟩); simp only [Act.put, List.setIfInBounds_toArray, List.set_cons_zero, List.set_cons_succ]))
            refine wpPlanA_hard _ rfl (by rfl) (fun w11 hS K hK => ?_)
            have hB11 := hB10.call hS rfl
            replace hC := hC.call hS rfl
            replace hT0 := blkb hT0 hS
            replace hT1 := blkb hT1 hS
            replace H := H.below hS
            replace HP := HP.below hS
            replace hT2 := blkb hT2 hS
            replace hrow1 := hrow1.below hS
            replace hrow2 := hrow2.below hS
            replace hrn := hrn.below hS
            replace hbq := hbq.call hS rfl
            replace hbz := hbz.call hS rfl
            replace how := how.below hS
            clear hS hB10
            go_simp
            refine (K61.out _ H).mono ?_
            rintro e w12 ⟨rfl, hb⟩
            have hB12 := hB11.call hb rfl
            replace hC := hC.call hb rfl
            replace hT0 := blkb hT0 hb
            replace hT1 := blkb hT1 hb
            replace H := H.below hb
            replace HP := HP.below hb
            replace hT2 := blkb hT2 hb
            replace hrow1 := hrow1.below hb
            replace hrow2 := hrow2.below hb
            replace hrn := hrn.below hb
            replace hbq := hbq.call hb rfl
            replace hbz := hbz.call hb rfl
            replace how := how.below hb
            clear hb hB11
            refine hK _ _ hC ?_
            clear hK K
            try simp only [Act.put, List.setIfInBounds_toArray, List.set_cons_zero, List.set_cons_succ]
            repeat (first | (refine wpPlanA_skip _ rfl (by rfl) ?_; simp only [Act.put, List.setIfInBounds_toArray, List.set_cons_zero, List.set_cons_succ]) | (refine wpPlanA_soft _ ?_ rfl (by rfl) ?_ ?_; rotate_left; (intro wq hq hcq; go_simp; first | exact rfl | exact ⟨rfl, rfl⟩); simp only [Act.put, List.setIfInBounds_toArray, List.set_cons_zero, List.set_cons_succ]))
            clear qi5 qk5 zi5
            refine wpPlanA_hard _ rfl (by rfl) (fun w13 hS K hK => ?_)
            have hB13 := hB12.call hS rfl
            replace hC := hC.call hS rfl
            replace hT0 := blkb hT0 hS
            replace hT1 := blkb hT1 hS
            replace H := H.below hS
            replace HP := HP.below hS
            replace hT2 := blkb hT2 hS
            replace hrow1 := hrow1.below hS
            replace hrow2 := hrow2.below hS
            replace hrn := hrn.below hS
            replace hbq := hbq.call hS rfl
            replace hbz := hbz.call hS rfl
            replace how := how.below hS
            clear hS hB12
            go_simp
            refine (c100 x y _ (by omega) (by omega)).mono ?_
            rintro e w' ⟨rfl, rfl⟩
            refine hK _ _ hC ?_
            clear hK K
            try simp only [Act.put, List.setIfInBounds_toArray, List.set_cons_zero, List.set_cons_succ]
            rw [HM.out]
            repeat (first | (refine wpPlanA_skip _ rfl (by rfl) ?_; simp only [Act.put, List.setIfInBounds_toArray, List.set_cons_zero, List.set_cons_succ]) | (refine wpPlanA_soft _ ?_ rfl (by rfl) ?_ ?_; rotate_left; (intro wq hq hcq; go_simp; first | exact rfl | exact ⟨rfl, rfl⟩); simp only [Act.put, List.setIfInBounds_toArray, List.set_cons_zero, List.set_cons_succ]))
            clear qhT0_0 qhT0_1 qhT0_2 qhT1_0 qhT1_1 qhT1_2 qhT1_3 qhT2_0 qhT2_1 qhT2_2
            refine wpPlanA_nil (fun w14 hS => ?_)
            clear hC zhT0 zhT1 zhT2
            have hB14 := hB13.call hS rfl
            replace hT0 := blkb hT0 hS
            replace hT1 := blkb hT1 hS
            replace H := H.below hS
            replace HP := HP.below hS
            replace hT2 := blkb hT2 hS
            replace hrow1 := hrow1.below hS
            replace hrow2 := hrow2.below hS
            replace hrn := hrn.below hS
            replace hbq := hbq.call hS rfl
            replace hbz := hbz.call hS rfl
            replace how := how.below hS
            clear hS hB13
            have qhT0_0 : w14.cell? ⟨w.heap.size, 0, none⟩ = some (.int .i64 c) := cell_at hT0 rfl
            have qhT0_1 : w14.cell? ⟨w.heap.size, 1, none⟩ = some (.int .i64 r) := cell_at hT0 rfl
            have qhT0_2 : w14.cell? ⟨w.heap.size, 2, none⟩ = some (.slice A n cap) := cell_at hT0 rfl
            have qhT1_0 : w14.cell? ⟨w.heap.size + 1, 0, none⟩ = some (.int .i64 un) := cell_at hT1 rfl
            have qhT1_1 : w14.cell? ⟨w.heap.size + 1, 1, none⟩ = some (.int .i64 len) := cell_at hT1 rfl
            have qhT1_2 : w14.cell? ⟨w.heap.size + 1, 2, none⟩ = some (.int .i64 most) := cell_at hT1 rfl
            have qhT1_3 : w14.cell? ⟨w.heap.size + 1, 3, none⟩ = some (.slice (some ⟨pb, poff, none⟩) np capp) := cell_at hT1 rfl
            have qhT2_0 : w14.cell? ⟨bp, 0, none⟩ = some (.int .i64 a) := cell_at hT2 rfl
            have qhT2_1 : w14.cell? ⟨bp, 1, none⟩ = some (.int .i64 b) := cell_at hT2 rfl
            have qhT2_2 : w14.cell? ⟨bp, 2, none⟩ = some (.bool hole) := cell_at hT2 rfl
            have HOW := Lib.hid how
            have HBZ := Lib.hid hbz
            clear how hbz
            go_wp2
            go_roundw
            case rel => exact ⟨k + 1, al, _, by omega, by go_num, rfl, HNV, Lib.hid (by rw [HFS.out, HF.out, Bool.or_false]; exact HAL.out), HOW, HBZ.out⟩
            case measure => simp [intOf]; omega
        ·
          have hre : ((di : Int) == (dk : Int)) = false := by simp; omega
          have HST : Hid (st = false) := Lib.hid (by rw [HSV.out]; simp [hcol, hrw])
          clear hcol hrw
          have zg := cell_lt qhT0_0
          go_wp2_with fail
          refine wp_region_growG (by kernel_rfl) (by kernel_rfl) ?_
          repeat (go_big_quiet_step ((first | fail)))
          refine wpQuiet_nil (gw_out ?_)
          intro w10 hb21
          clear qhT0_0 qhT0_1 qhT0_2 qhT1_0 qhT1_1 qhT1_2 qhT1_3 qhT2_0 qhT2_1 qhT2_2
          have hS := hb21
          have hB10 := hB9.call hS rfl
          replace hT0 := blkb hT0 hS
          replace hT1 := blkb hT1 hS
          replace H := H.below hS
          replace HP := HP.below hS
          replace hT2 := blkb hT2 hS
          replace hrow1 := hrow1.below hS
          replace hrow2 := hrow2.below hS
          replace hrn := hrn.below hS
          replace hbq := hbq.call hS rfl
          replace hbz := hbz.call hS rfl
          replace how := how.below hS
          clear hS hB9
          have qhT0_0 : w10.cell? ⟨w.heap.size, 0, none⟩ = some (.int .i64 c) := cell_at hT0 rfl
          have qhT0_1 : w10.cell? ⟨w.heap.size, 1, none⟩ = some (.int .i64 r) := cell_at hT0 rfl
          have qhT0_2 : w10.cell? ⟨w.heap.size, 2, none⟩ = some (.slice A n cap) := cell_at hT0 rfl
          have qhT1_0 : w10.cell? ⟨w.heap.size + 1, 0, none⟩ = some (.int .i64 un) := cell_at hT1 rfl
          have qhT1_1 : w10.cell? ⟨w.heap.size + 1, 1, none⟩ = some (.int .i64 len) := cell_at hT1 rfl
          have qhT1_2 : w10.cell? ⟨w.heap.size + 1, 2, none⟩ = some (.int .i64 most) := cell_at hT1 rfl
          have qhT1_3 : w10.cell? ⟨w.heap.size + 1, 3, none⟩ = some (.slice (some ⟨pb, poff, none⟩) np capp) := cell_at hT1 rfl
          have qhT2_0 : w10.cell? ⟨bp, 0, none⟩ = some (.int .i64 a) := cell_at hT2 rfl
          have qhT2_1 : w10.cell? ⟨bp, 1, none⟩ = some (.int .i64 b) := cell_at hT2 rfl
          have qhT2_2 : w10.cell? ⟨bp, 2, none⟩ = some (.bool hole) := cell_at hT2 rfl
          clear zg hb21 hmi hqi hmk hqk hwdi hwdk
          have HF : Hid (F = false) := Lib.hid (by rw [HFV.out, HST.out]; simp)
          by_cases hV : 0 < V
          ·
            have hdv : decide (0 < V) = true := by simpa using hV
            clear hV
            go_wp2_with fail
            refine wp_region_plan [(0, true), (1, true), (2, true), (3, false), (4, true), (5, true), (6, true), (7, true), (8, true), (9, true), (10, true), (11, true), (12, true), (13, true), (14, true), (15, true), (16, true), (18, true), (19, true), (17, false), (20, true), (21, true)] w10.heap.size (by kernel_rfl) (by kernel_rfl) (Nat.le_refl _) (fun _ _ d _ _ h => by cases d <;> exact h) ?_
            have hC : Below w10.heap.size w10 w10 := Below.refl _ _
            have zhT0 : w.heap.size < w10.heap.size := (Array.getElem?_eq_some_iff.1 hT0).1
            have zhT1 : w.heap.size + 1 < w10.heap.size := (Array.getElem?_eq_some_iff.1 hT1).1
            have zhT2 : bp < w10.heap.size := (Array.getElem?_eq_some_iff.1 hT2).1
            repeat (first | (refine wpPlanA_skip _ rfl (by rfl) ?_; simp only [Act.put, List.setIfInBounds_toArray, List.set_cons_zero, List.set_cons_succ]) | (refine wpPlanA_soft _ ?_ rfl (by rfl) ?_ ?_; rotate_left; (intro wq hq hcq; go_simp; first | exact rfl | exact ⟨rfl, rfl⟩); simp only [Act.put, List.setIfInBounds_toArray, List.set_cons_zero, List.set_cons_succ]))
            refine wpPlanA_hard _ rfl (by rfl) (fun w11 hS K hK => ?_)
            have hB11 := hB10.call hS rfl
            replace hC := hC.call hS rfl
            replace hT0 := blkb hT0 hS
            replace hT1 := blkb hT1 hS
            replace H := H.below hS
            replace HP := HP.below hS
            replace hT2 := blkb hT2 hS
            replace hrow1 := hrow1.below hS
            replace hrow2 := hrow2.below hS
            replace hrn := hrn.below hS
            replace hbq := hbq.call hS rfl
            replace hbz := hbz.call hS rfl
            replace how := how.below hS
            clear hS hB10
            go_simp
            refine (K61.out _ H).mono ?_
            rintro e w12 ⟨rfl, hb⟩
            have hB12 := hB11.call hb rfl
            replace hC := hC.call hb rfl
            replace hT0 := blkb hT0 hb
            replace hT1 := blkb hT1 hb
            replace H := H.below hb
            replace HP := HP.below hb
            replace hT2 := blkb hT2 hb
            replace hrow1 := hrow1.below hb
            replace hrow2 := hrow2.below hb
            replace hrn := hrn.below hb
            replace hbq := hbq.call hb rfl
            replace hbz := hbz.call hb rfl
            replace how := how.below hb
            clear hb hB11
            refine hK _ _ hC ?_
            clear hK K
            try simp only [Act.put, List.setIfInBounds_toArray, List.set_cons_zero, List.set_cons_succ]
            repeat (first | (refine wpPlanA_skip _ rfl (by rfl) ?_; simp only [Act.put, List.setIfInBounds_toArray, List.set_cons_zero, List.set_cons_succ]) | (refine wpPlanA_soft _ ?_ rfl (by rfl) ?_ ?_; rotate_left; (intro wq hq hcq; go_simp; first | exact rfl | exact ⟨rfl, rfl⟩); simp only [Act.put, List.setIfInBounds_toArray, List.set_cons_zero, List.set_cons_succ]))
            refine wpPlanA_hskip _ rfl (by rfl) ?_
            simp only [Act.put, List.setIfInBounds_toArray, List.set_cons_zero, List.set_cons_succ]
            repeat (first | (refine wpPlanA_skip _ rfl (by rfl) ?_; simp only [Act.put, List.setIfInBounds_toArray, List.set_cons_zero, List.set_cons_succ]) | (refine wpPlanA_soft _ ?_ rfl (by rfl) ?_ ?_; rotate_left; (intro wq hq hcq; go_simp; first | exact rfl | exact ⟨rfl, rfl⟩); simp only [Act.put, List.setIfInBounds_toArray, List.set_cons_zero, List.set_cons_succ]))
            clear qhT0_0 qhT0_1 qhT0_2 qhT1_0 qhT1_1 qhT1_2 qhT1_3 qhT2_0 qhT2_1 qhT2_2
            refine wpPlanA_nil (fun w13 hS => ?_)
            clear hC zhT0 zhT1 zhT2
            have hB13 := hB12.call hS rfl
            replace hT0 := blkb hT0 hS
            replace hT1 := blkb hT1 hS
            replace H := H.below hS
            replace HP := HP.below hS
            replace hT2 := blkb hT2 hS
            replace hrow1 := hrow1.below hS
            replace hrow2 := hrow2.below hS
            replace hrn := hrn.below hS
            replace hbq := hbq.call hS rfl
            replace hbz := hbz.call hS rfl
            replace how := how.below hS
            clear hS hB12
            have qhT0_0 : w13.cell? ⟨w.heap.size, 0, none⟩ = some (.int .i64 c) := cell_at hT0 rfl
            have qhT0_1 : w13.cell? ⟨w.heap.size, 1, none⟩ = some (.int .i64 r) := cell_at hT0 rfl
            have qhT0_2 : w13.cell? ⟨w.heap.size, 2, none⟩ = some (.slice A n cap) := cell_at hT0 rfl
            have qhT1_0 : w13.cell? ⟨w.heap.size + 1, 0, none⟩ = some (.int .i64 un) := cell_at hT1 rfl
            have qhT1_1 : w13.cell? ⟨w.heap.size + 1, 1, none⟩ = some (.int .i64 len) := cell_at hT1 rfl
            have qhT1_2 : w13.cell? ⟨w.heap.size + 1, 2, none⟩ = some (.int .i64 most) := cell_at hT1 rfl
            have qhT1_3 : w13.cell? ⟨w.heap.size + 1, 3, none⟩ = some (.slice (some ⟨pb, poff, none⟩) np capp) := cell_at hT1 rfl
            have qhT2_0 : w13.cell? ⟨bp, 0, none⟩ = some (.int .i64 a) := cell_at hT2 rfl
            have qhT2_1 : w13.cell? ⟨bp, 1, none⟩ = some (.int .i64 b) := cell_at hT2 rfl
            have qhT2_2 : w13.cell? ⟨bp, 2, none⟩ = some (.bool hole) := cell_at hT2 rfl
            have HOW := Lib.hid how
            have HBZ := Lib.hid hbz
            clear how hbz
            go_wp2
            go_roundw
            case rel => exact ⟨k + 1, al, _, by omega, by go_num, rfl, HNV, Lib.hid (by rw [HFS.out, HF.out, Bool.or_false]; exact HAL.out), HOW, HBZ.out⟩
            case measure => simp [intOf]; omega
          ·
            have hdv : decide (0 < V) = false := by simpa using hV
            clear hV
            go_wp2_with fail
            refine wp_region_plan [(0, true), (1, true), (2, true), (3, false), (4, true), (5, true), (6, true), (7, true), (8, true), (9, true), (10, true), (11, true), (12, true), (13, true), (14, true), (15, true), (16, true), (18, true), (19, true), (17, false), (20, true), (21, true)] w10.heap.size (by kernel_rfl) (by kernel_rfl) (Nat.le_refl _) (fun _ _ d _ _ h => by cases d <;> exact h) ?_
            have hC : Below w10.heap.size w10 w10 := Below.refl _ _
            have zhT0 : w.heap.size < w10.heap.size := (Array.getElem?_eq_some_iff.1 hT0).1
            have zhT1 : w.heap.size + 1 < w10.heap.size := (Array.getElem?_eq_some_iff.1 hT1).1
            have zhT2 : bp < w10.heap.size := (Array.getElem?_eq_some_iff.1 hT2).1
            repeat (first | (refine wpPlanA_skip _ rfl (by rfl) ?_; simp only [Act.put, List.setIfInBounds_toArray, List.set_cons_zero, List.set_cons_succ]) | (refine wpPlanA_soft _ ?_ rfl (by rfl) ?_ ?_; rotate_left; (intro wq hq hcq; go_simp; first | exact rfl | exact ⟨rfl, rfl⟩); simp only [Act.put, List.setIfInBounds_toArray, List.set_cons_zero, List.set_cons_succ]))
            refine wpPlanA_hard _ rfl (by rfl) (fun w11 hS K hK => ?_)
            have hB11 := hB10.call hS rfl
            replace hC := hC.call hS rfl
            replace hT0 := blkb hT0 hS
            replace hT1 := blkb hT1 hS
            replace H := H.below hS
            replace HP := HP.below hS
            replace hT2 := blkb hT2 hS
            replace hrow1 := hrow1.below hS
            replace hrow2 := hrow2.below hS
            replace hrn := hrn.below hS
            replace hbq := hbq.call hS rfl
            replace hbz := hbz.call hS rfl
            replace how := how.below hS
            clear hS hB10
            go_simp
            refine (K61.out _ H).mono ?_
            rintro e w12 ⟨rfl, hb⟩
            have hB12 := hB11.call hb rfl
            replace hC := hC.call hb rfl
            replace hT0 := blkb hT0 hb
            replace hT1 := blkb hT1 hb
            replace H := H.below hb
            replace HP := HP.below hb
            replace hT2 := blkb hT2 hb
            replace hrow1 := hrow1.below hb
            replace hrow2 := hrow2.below hb
            replace hrn := hrn.below hb
            replace hbq := hbq.call hb rfl
            replace hbz := hbz.call hb rfl
            replace how := how.below hb
            clear hb hB11
            refine hK _ _ hC ?_
            clear hK K
            try simp only [Act.put, List.setIfInBounds_toArray, List.set_cons_zero, List.set_cons_succ]
            repeat (first | (refine wpPlanA_skip _ rfl (by rfl) ?_; simp only [Act.put, List.setIfInBounds_toArray, List.set_cons_zero, List.set_cons_succ]) | (refine wpPlanA_soft _ ?_ rfl (by rfl) ?_ ?_; rotate_left; (intro wq hq hcq; go_simp; first | exact rfl | exact ⟨rfl, rfl⟩); simp only [Act.put, List.setIfInBounds_toArray, List.set_cons_zero, List.set_cons_succ]))
            refine wpPlanA_hskip _ rfl (by rfl) ?_
            simp only [Act.put, List.setIfInBounds_toArray, List.set_cons_zero, List.set_cons_succ]
            repeat (first | (refine wpPlanA_skip _ rfl (by rfl) ?_; simp only [Act.put, List.setIfInBounds_toArray, List.set_cons_zero, List.set_cons_succ]) | (refine wpPlanA_soft _ ?_ rfl (by rfl) ?_ ?_; rotate_left; (intro wq hq hcq; go_simp; first | exact rfl | exact ⟨rfl, rfl⟩); simp only [Act.put, List.setIfInBounds_toArray, List.set_cons_zero, List.set_cons_succ]))
            clear qhT0_0 qhT0_1 qhT0_2 qhT1_0 qhT1_1 qhT1_2 qhT1_3 qhT2_0 qhT2_1 qhT2_2
            refine wpPlanA_nil (fun w13 hS => ?_)
            clear hC zhT0 zhT1 zhT2
            have hB13 := hB12.call hS rfl
            replace hT0 := blkb hT0 hS
            replace hT1 := blkb hT1 hS
            replace H := H.below hS
            replace HP := HP.below hS
            replace hT2 := blkb hT2 hS
            replace hrow1 := hrow1.below hS
            replace hrow2 := hrow2.below hS
            replace hrn := hrn.below hS
            replace hbq := hbq.call hS rfl
            replace hbz := hbz.call hS rfl
            replace how := how.below hS
            clear hS hB12
            have qhT0_0 : w13.cell? ⟨w.heap.size, 0, none⟩ = some (.int .i64 c) := cell_at hT0 rfl
            have qhT0_1 : w13.cell? ⟨w.heap.size, 1, none⟩ = some (.int .i64 r) := cell_at hT0 rfl
            have qhT0_2 : w13.cell? ⟨w.heap.size, 2, none⟩ = some (.slice A n cap) := cell_at hT0 rfl
            have qhT1_0 : w13.cell? ⟨w.heap.size + 1, 0, none⟩ = some (.int .i64 un) := cell_at hT1 rfl
            have qhT1_1 : w13.cell? ⟨w.heap.size + 1, 1, none⟩ = some (.int .i64 len) := cell_at hT1 rfl
            have qhT1_2 : w13.cell? ⟨w.heap.size + 1, 2, none⟩ = some (.int .i64 most) := cell_at hT1 rfl
            have qhT1_3 : w13.cell? ⟨w.heap.size + 1, 3, none⟩ = some (.slice (some ⟨pb, poff, none⟩) np capp) := cell_at hT1 rfl
            have qhT2_0 : w13.cell? ⟨bp, 0, none⟩ = some (.int .i64 a) := cell_at hT2 rfl
            have qhT2_1 : w13.cell? ⟨bp, 1, none⟩ = some (.int .i64 b) := cell_at hT2 rfl
            have qhT2_2 : w13.cell? ⟨bp, 2, none⟩ = some (.bool hole) := cell_at hT2 rfl
            have HOW := Lib.hid how
            have HBZ := Lib.hid hbz
            clear how hbz
            go_wp2
            go_roundw
            case rel => exact ⟨k + 1, al, _, by omega, by go_num, rfl, HNV, Lib.hid (by rw [HFS.out, HF.out, Bool.or_false]; exact HAL.out), HOW, HBZ.out⟩
            case measure => simp [intOf]; omega
    obtain rfl : n = k := by omega
    have how := HOW.out
    clear HOW
    have HALL : Hid (al = Im.alia c l ns most i) := Lib.hid (by rw [HAL.out, ← far_all, HLN.out])
    have HDV : Hid (Im.dly c l ns len most hole i = if hole || decide (len ≤ x) || al then -1 else x) := Lib.hid (by unfold Im.dly; rw [HX.out, HALL.out])
    have HNV' := HNV
    have HTK := Lib.hid (tk_push (LL := Im.delays c l ns len most hole) (k := i) (by rw [Im.delays_len, HLN.out]; exact hlt))
    rw [Im.delays_at (by rw [HLN.out]; exact hlt)] at HTK
    have hsz3 : w7.heap.size ≤ w9.heap.size := hbq.size
    cases hole
    ·
      cases al
      ·
        obtain rfl : nv = x := HNV.out
        by_cases hlx : len ≤ nv
        ·
          have hd9 : decide (len ≤ nv) = true := by simpa using hlx
          have HDY : Hid (Im.dly c l ns len most false i = -1) := Lib.hid (by rw [HDV.out, hd9]; rfl)
          clear hlx
          rw [HDY.out] at HTK
          have qT2 : w9.cell? ⟨bp, 2, none⟩ = some (.bool false) := cell_at hT2 rfl
          go_wp2_with (at_builtin; refine wpList_append_own _ rfl _ _ 22 rfl w7.heap.size 3 i0 (.int .i64 0) 1 8 Tryz.underlying22 hiz hz0 hz1 hz2 rfl (by decide) _ _ _ rfl (World.ownsRow.alloc how _) ⟨w9.heap.size, 0, none⟩ 1 1 [Value.int .i64 (-1)] rfl rfl (news_one _ _ rfl) (fun x hx => by rw [List.mem_singleton.1 hx]; rfl) (by unfold maxLen; omega) (by omega) (by simp; omega) ?_)
          intro x' w40 hown4 hg4 _
          have HB4 : Hid (Below w7.heap.size w7 w40) := Lib.hid ((hbq.alloc hsz3 _).grown hg4 (by simp; omega) (fun g hg => (World.ownsRow.lt how g hg).1))
          have HO : Hid (Own w40 w7.heap.size x' (i + 1) (encI ((Im.delays c l ns len most false).take (i + 1)))) := Lib.hid (by
           rw [← HTK.out]
           have e : encI ((Im.delays c l ns len most false).take i ++ [(-1)]) = encI ((Im.delays c l ns len most false).take i) ++ [Value.int .i64 (-1)] := by simp [encI]
           rw [e]
           exact hown4)
          clear hown4 hg4 how
          go_wp2
          go_roundw
          case rel => exact ⟨i + 1, by omega, by go_num, HO, HB4.out⟩
          case measure => simp [intOf]; omega
        ·
          have hd9 : decide (len ≤ nv) = false := by simpa using hlx
          have HDY : Hid (Im.dly c l ns len most false i = nv) := Lib.hid (by rw [HDV.out, hd9]; rfl)
          clear hlx
          rw [HDY.out] at HTK
          have qT2 : w9.cell? ⟨bp, 2, none⟩ = some (.bool false) := cell_at hT2 rfl
          go_wp2_with (at_builtin; refine wpList_append_own _ rfl _ _ 22 rfl w7.heap.size 3 i0 (.int .i64 0) 1 8 Tryz.underlying22 hiz hz0 hz1 hz2 rfl (by decide) _ _ _ rfl (World.ownsRow.alloc how _) ⟨w9.heap.size, 0, none⟩ 1 1 [Value.int .i64 nv] rfl rfl (news_one _ _ rfl) (fun x hx => by rw [List.mem_singleton.1 hx]; rfl) (by unfold maxLen; omega) (by omega) (by simp; omega) ?_)
          intro x' w40 hown4 hg4 _
          have HB4 : Hid (Below w7.heap.size w7 w40) := Lib.hid ((hbq.alloc hsz3 _).grown hg4 (by simp; omega) (fun g hg => (World.ownsRow.lt how g hg).1))
          have HO : Hid (Own w40 w7.heap.size x' (i + 1) (encI ((Im.delays c l ns len most false).take (i + 1)))) := Lib.hid (by
           rw [← HTK.out]
           have e : encI ((Im.delays c l ns len most false).take i ++ [nv]) = encI ((Im.delays c l ns len most false).take i) ++ [Value.int .i64 nv] := by simp [encI]
           rw [e]
           exact hown4)
          clear hown4 hg4 how
          go_wp2
          go_roundw
          case rel => exact ⟨i + 1, by omega, by go_num, HO, HB4.out⟩
          case measure => simp [intOf]; omega
      ·
        obtain rfl : nv = -1 := HNV.out
        have hd9 : decide (len ≤ -1) = false := by simp; omega
        have HDY : Hid (Im.dly c l ns len most false i = -1) := Lib.hid (by rw [HDV.out]; simp)
        rw [HDY.out] at HTK
        have qT2 : w9.cell? ⟨bp, 2, none⟩ = some (.bool false) := cell_at hT2 rfl
        go_wp2_with (at_builtin; refine wpList_append_own _ rfl _ _ 22 rfl w7.heap.size 3 i0 (.int .i64 0) 1 8 Tryz.underlying22 hiz hz0 hz1 hz2 rfl (by decide) _ _ _ rfl (World.ownsRow.alloc how _) ⟨w9.heap.size, 0, none⟩ 1 1 [Value.int .i64 (-1)] rfl rfl (news_one _ _ rfl) (fun x hx => by rw [List.mem_singleton.1 hx]; rfl) (by unfold maxLen; omega) (by omega) (by simp; omega) ?_)
        intro x' w40 hown4 hg4 _
        have HB4 : Hid (Below w7.heap.size w7 w40) := Lib.hid ((hbq.alloc hsz3 _).grown hg4 (by simp; omega) (fun g hg => (World.ownsRow.lt how g hg).1))
        have HO : Hid (Own w40 w7.heap.size x' (i + 1) (encI ((Im.delays c l ns len most false).take (i + 1)))) := Lib.hid (by
         rw [← HTK.out]
         have e : encI ((Im.delays c l ns len most false).take i ++ [(-1)]) = encI ((Im.delays c l ns len most false).take i) ++ [Value.int .i64 (-1)] := by simp [encI]
         rw [e]
         exact hown4)
        clear hown4 hg4 how
        go_wp2
        go_roundw
        case rel => exact ⟨i + 1, by omega, by go_num, HO, HB4.out⟩
        case measure => simp [intOf]; omega
    ·
      have HDY : Hid (Im.dly c l ns len most true i = -1) := Lib.hid (by rw [HDV.out]; rfl)
      rw [HDY.out] at HTK
      have qT2 : w9.cell? ⟨bp, 2, none⟩ = some (.bool true) := cell_at hT2 rfl
      go_wp2_with (at_builtin; refine wpList_append_own _ rfl _ _ 22 rfl w7.heap.size 3 i0 (.int .i64 0) 1 8 Tryz.underlying22 hiz hz0 hz1 hz2 rfl (by decide) _ _ _ rfl (World.ownsRow.alloc how _) ⟨w9.heap.size, 0, none⟩ 1 1 [Value.int .i64 (-1)] rfl rfl (news_one _ _ rfl) (fun x hx => by rw [List.mem_singleton.1 hx]; rfl) (by unfold maxLen; omega) (by omega) (by simp; omega) ?_)
      intro x' w40 hown4 hg4 _
      have HB4 : Hid (Below w7.heap.size w7 w40) := Lib.hid ((hbq.alloc hsz3 _).grown hg4 (by simp; omega) (fun g hg => (World.ownsRow.lt how g hg).1))
      have HO : Hid (Own w40 w7.heap.size x' (i + 1) (encI ((Im.delays c l ns len most true).take (i + 1)))) := Lib.hid (by
       rw [← HTK.out]
       have e : encI ((Im.delays c l ns len most true).take i ++ [(-1)]) = encI ((Im.delays c l ns len most true).take i) ++ [Value.int .i64 (-1)] := by simp [encI]
       rw [e]
       exact hown4)
      clear hown4 hg4 how
      go_wp2
      go_roundw
      case rel => exact ⟨i + 1, by omega, by go_num, HO, HB4.out⟩
      case measure => simp [intOf]; omega
end Go.Proofs.YtdimmlljjmmdbaaGreatDoor
namespace Go.Proofs.YtdimmlljjmmdbaaGreatDoor
open Go.RowKit Go.Shelf
set_option maxHeartbeats 8000000
set_option maxRecDepth 100000
theorem c20 (c r : Int) (A : Option Addr) (n cap : Nat) (l : List Int) (w : World) (hl : n ≤ 1000000) (H : RdI w A n l) :
  Calls Tryz.prog 20 #[.agg #[.int .i64 c, .int .i64 r, .slice A n cap]] w fun en w' => ∃ B cb, en = .returned (.agg #[.int .i64 c, .int .i64 r, .slice B n cb]) ∧ RdI w' B n l ∧ n ≤ cb ∧ cb ≤ 9223372036854775807 ∧ Below w.heap.size w w' := by
 obtain ⟨w0, hW⟩ : ∃ W, W = (w.alloc (Obj.cells #[.int .i64 c, .int .i64 r, .slice A n cap] 24)).alloc (Obj.cells #[.int .i64 0, .int .i64 0, .slice none 0 0] 35) := ⟨_, rfl⟩
 have hT0 : w0.heap[w.heap.size]? = some (.cells #[.int .i64 c, .int .i64 r, .slice A n cap] 24 (0, 0)) := by rw [hW]; exact heap_old (by simp) (heap_new rfl)
 have hT1 : w0.heap[w.heap.size + 1]? = some (.cells #[.int .i64 0, .int .i64 0, .slice none 0 0] 35 (0, 0)) := by rw [hW]; exact heap_new (by simp)
 have hB0 : Below w.heap.size w w0 := by rw [hW]; exact below2 _ _ _
 have H0 := H.below hB0
 have hsz := hB0.size
 clear H
 go_enter Tryz.func20, Tryz.ntmps20
 go_wp2_with fail
 rw [← hW]
 clear hW
 have q0 : w0.cell? ⟨w.heap.size, 0, none⟩ = some (.int .i64 c) := cell_at hT0 rfl
 have q1 : w0.cell? ⟨w.heap.size, 1, none⟩ = some (.int .i64 r) := cell_at hT0 rfl
 have q2 : w0.cell? ⟨w.heap.size, 2, none⟩ = some (.slice A n cap) := cell_at hT0 rfl
 have z0 := cell_lt q0
 refine wp_region_planL [(0, true), (1, true), (2, true), (3, true), (4, true), (5, true), (6, false), (7, true)] w0.heap.size 8 (by kernel_rfl) (by kernel_rfl) (Nat.le_refl _) (fun _ _ d _ _ h => by cases d <;> exact h) ?_
 have hC : Below w0.heap.size w0 w0 := Below.refl _ _
 repeat (first | (refine wpPlanLA_skip _ rfl (by rfl) ?_; simp only [Act.put, List.setIfInBounds_toArray, List.set_cons_zero, List.set_cons_succ]) | (refine wpPlanLA_soft _ ?_ rfl (by rfl) ?_ ?_; rotate_left; (intro wq hq hcq; go_simp; first | exact rfl | exact ⟨rfl, rfl⟩); simp only [Act.put, List.setIfInBounds_toArray, List.set_cons_zero, List.set_cons_succ]))
 refine wpPlanLA_hard _ rfl (by rfl) (fun w1 hS K hK => ?_)
 replace hC := hC.call hS rfl
 clear hS
 go_simp
 refine (c22 A n cap l _ hl (H0.below hC)).mono ?_
 rintro e w2 ⟨v2, rfl, ho, hb⟩
 have hLO : w.heap.size + 1 < w1.heap.size := Nat.lt_of_lt_of_le (Array.getElem?_eq_some_iff.1 hT1).1 hC.size
 obtain ⟨B, cb, rfl⟩ := own_slice ho
 replace hC := hC.call hb rfl
 clear hb
 refine hK _ _ hC ?_
 clear hK K
 try simp only [Act.put, List.setIfInBounds_toArray, List.set_cons_zero, List.set_cons_succ]
 repeat (first | (refine wpPlanLA_skip _ rfl (by rfl) ?_; simp only [Act.put, List.setIfInBounds_toArray, List.set_cons_zero, List.set_cons_succ]) | (refine wpPlanLA_soft _ ?_ rfl (by rfl) ?_ ?_; rotate_left; (intro wq hq hcq; go_simp; first | exact rfl | exact ⟨rfl, rfl⟩); simp only [Act.put, List.setIfInBounds_toArray, List.set_cons_zero, List.set_cons_succ]))
 refine wpPlanLA_last _ rfl (by rfl) (fun w3 hS K hK => ?_)
 replace hC := hC.call hS rfl
 replace ho := own_below ho hS
 clear hS
 have hT3 := blkb hT1 hC
 refine wp_store_blk 35 _ _ rfl (w.heap.size + 1) _ rfl rfl hT3 ?s1 ?s2 ?s3 ?_
 case s1 => rfl
 case s2 => kernel_rfl
 case s3 => simp [Value.oneCell']
 intro w4 hT4 hg4 hs4
 have o4 := Own.kept ho hg4 hLO
 have hB4 := (hB0.call hC rfl).grown hg4 (hB0.call hC rfl).size (fun j hj => by cases hj; omega)
 refine hK _ _ (fun w5 hS => ?_)
 clear hK K
 replace hT4 := blkb hT4 hS
 have hB5 := hB4.call hS rfl
 obtain ⟨B', cb', e, hr, hcb, hcm, _⟩ := own_form (own_below o4 hS)
 cases e
 have HO : Hid (RdI w5 B n l ∧ n ≤ cb ∧ cb ≤ 9223372036854775807 ∧ Below w.heap.size w w5) := Lib.hid ⟨hr, hcb, hcm, hB5⟩
 clear hS hr hcb hcm hB5 hB4 hs4 o4 hg4 hT3 hC ho
 have c0 := cell_at (i := 0) hT4 rfl
 have c1 := cell_at (i := 1) hT4 rfl
 have c2 := cell_at (i := 2) hT4 rfl
 go_wp2
 obtain ⟨h1, h2, h3, h4⟩ := HO.out
 exact bodyPost_ret (results_blk rfl rfl hT4 _ Tryz.underlying35 rfl (by kernel_rfl)) rfl ⟨B, cb, rfl, h1, h2, h3, h4⟩
end Go.Proofs.YtdimmlljjmmdbaaGreatDoor
