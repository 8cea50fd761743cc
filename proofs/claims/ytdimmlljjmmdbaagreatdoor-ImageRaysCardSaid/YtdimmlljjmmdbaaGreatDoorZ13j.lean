/- A part of the proofs about chapter 7 (image): contracts of functions and plain laws (PIso, V57, V70, V71, V75, V76, V77). -/
import Derived.Test.YtdimmlljjmmdbaaGreatDoorZ13b
import Derived.Test.YtdimmlljjmmdbaaGreatDoorZ13e
import Derived.Test.YtdimmlljjmmdbaaGreatDoorZ13f
import Derived.Test.YtdimmlljjmmdbaaGreatDoorZ13i
set_option linter.all false
/- Plain laws of chapter 07: mirrored and transposed grounds have the times of the cells where they go. -/
namespace Im
/-- cells of a ground renamed: the times go along -/
theorem IsT.iso {c c' : Nat} {l l' : List Int} {s : Nat} {t u : List Int} {f g : Nat → Nat} (hl : l'.length = l.length) (hf : ∀ a, a < l.length → f a < l.length ∧ g (f a) = a) (hg : ∀ a, a < l.length → g a < l.length ∧ f (g a) = a)
  (hc : ∀ a b, a < l.length → b < l.length → cost c' l' (f a) (f b) = cost c l a b) (hs : s < l.length) (h : IsT c l s t) (h' : IsT c' l' (f s) u) : ∀ i, i < l.length → at0 u (f i) = at0 t i := by
 have hat : ∀ i, i < l.length → at0 ((List.range l.length).map fun j => at0 t (g j)) i = at0 t (g i) := fun i hi => by
  simp [at0, List.getD_eq_getElem?_getD, hi]
 have hI : IsT c' l' (f s) ((List.range l.length).map fun j => at0 t (g j)) := by
  refine ⟨by simp [hl], ?_, ?_, ?_, ?_⟩
  ·rw [hat _ (hf s hs).1, (hf s hs).2, h.src]
  ·intro b hb
   rw [hl] at hb
   rw [hat b hb]
   exact h.nn _ (hg b hb).1
  ·intro a b ha hb hp
   rw [hl] at ha hb
   rw [hat a ha, hat b hb]
   have e : cost c' l' a b = cost c l (g a) (g b) := by
    rw [← hc _ _ (hg a ha).1 (hg b hb).1, (hg a ha).2, (hg b hb).2]
   rw [e] at hp ⊢
   exact h.feas _ _ (hg a ha).1 (hg b hb).1 hp
  ·intro b hb hne
   rw [hl] at hb
   have hne2 : g b ≠ s := fun e => hne (by rw [← e, (hg b hb).2])
   obtain ⟨a, ha, h1, h2⟩ := h.tight _ (hg b hb).1 hne2
   refine ⟨f a, by rw [hl]; exact (hf a ha).1, ?_, ?_⟩
   ·rw [← (hg b hb).2, hc a _ ha (hg b hb).1]; exact h1
   ·rw [hat b hb, hat _ (hf a ha).1, (hf a ha).2, h2]
    congr 1
    rw [← hc a _ ha (hg b hb).1, (hg b hb).2]
 have hu := hI.unique h'
 intro i hi
 rw [← hu, hat _ (hf i hi).1, (hf i hi).2]
/-- the cell in the mirror -/
def mir (c a : Nat) : Nat := a / c * c + c - 1 - a % c
def acr (c r a : Nat) : Nat := a % c * r + a / c
theorem mir_facts {c r a : Nat} (hc : 1 ≤ c) (ha : a < c * r) : mir c a < c * r ∧ mir c a % c = c - 1 - a % c ∧ mir c a / c = a / c := by
 have h1 : a % c < c := Nat.mod_lt _ hc
 have h2 : a / c < r := Nat.div_lt_of_lt_mul ha
 have h3 := cell_mk (c := c) (r := r) (x := c - 1 - a % c) (y := a / c) (by omega) h2
 have e : mir c a = a / c * c + (c - 1 - a % c) := by unfold mir; omega
 rw [e]; exact h3
theorem mir_mir {c r a : Nat} (hc : 1 ≤ c) (ha : a < c * r) : mir c (mir c a) = a := by
 have h1 : a % c < c := Nat.mod_lt _ hc
 obtain ⟨h2, h3, h4⟩ := mir_facts hc ha
 obtain ⟨h5, h6, h7⟩ := mir_facts hc h2
 exact cell_eq (c := c) (by rw [h6, h3]; omega) (by rw [h7, h4])
theorem acr_facts {c r a : Nat} (hc : 1 ≤ c) (ha : a < c * r) : acr c r a < r * c ∧ acr c r a % r = a / c ∧ acr c r a / r = a % c := by
 have h1 : a % c < c := Nat.mod_lt _ hc
 have h2 : a / c < r := Nat.div_lt_of_lt_mul ha
 exact cell_mk (c := r) (r := c) (x := a / c) (y := a % c) h2 h1
theorem acr_acr {c r a : Nat} (hc : 1 ≤ c) (hr : 1 ≤ r) (ha : a < c * r) : acr r c (acr c r a) = a := by
 obtain ⟨h2, h3, h4⟩ := acr_facts hc ha
 obtain ⟨h5, h6, h7⟩ := acr_facts hr h2
 exact cell_eq (c := c) (by rw [h6, h4]) (by rw [h7, h3])
theorem mir_cost {c r : Nat} {l l' : List Int} (g : Gr c r l) (h : ∀ a, a < l.length → at0 l' (mir c a) = at0 l a) (a b : Nat) (ha : a < l.length) (hb : b < l.length) : cost c l' (mir c a) (mir c b) = cost c l a b := by
 have ha' := ha; have hb' := hb
 rw [g.len] at ha' hb'
 obtain ⟨_, a1, a2⟩ := mir_facts g.c1 ha'
 obtain ⟨_, b1, b2⟩ := mir_facts g.c1 hb'
 have m1 : a % c < c := Nat.mod_lt _ g.c1
 have m2 : b % c < c := Nat.mod_lt _ g.c1
 have e : mir c a = mir c b ↔ a = b := ⟨fun e => by rw [← mir_mir g.c1 ha', ← mir_mir g.c1 hb', e], fun e => by rw [e]⟩
 have e2 : ap (c - 1 - a % c) (c - 1 - b % c) = ap (a % c) (b % c) := by unfold ap; omega
 unfold cost
 rw [a1, a2, b1, b2, h a ha, h b hb, e2]
 simp only [e]
theorem acr_cost {c r : Nat} {l l' : List Int} (g : Gr c r l) (h : ∀ a, a < l.length → at0 l' (acr c r a) = at0 l a) (a b : Nat) (ha : a < l.length) (hb : b < l.length) : cost r l' (acr c r a) (acr c r b) = cost c l a b := by
 have ha' := ha; have hb' := hb
 rw [g.len] at ha' hb'
 obtain ⟨_, a1, a2⟩ := acr_facts g.c1 ha'
 obtain ⟨_, b1, b2⟩ := acr_facts g.c1 hb'
 have e : acr c r a = acr c r b ↔ a = b := ⟨fun e => by rw [← acr_acr g.c1 g.r1 ha', ← acr_acr g.c1 g.r1 hb', e], fun e => by rw [e]⟩
 unfold cost
 rw [a1, a2, b1, b2, h a ha, h b hb]
 have e2 : (acr c r a = acr c r b ∨ 1 < ap (a / c) (b / c) ∨ 1 < ap (a % c) (b % c)) ↔ (a = b ∨ 1 < ap (a % c) (b % c) ∨ 1 < ap (a / c) (b / c)) := by rw [e, or_comm (a := 1 < ap (a / c) (b / c))]
 have e3 : (ap (a / c) (b / c) = 1 ∧ ap (a % c) (b % c) = 1) ↔ (ap (a % c) (b % c) = 1 ∧ ap (a / c) (b / c) = 1) := And.comm
 simp only [e2, e3]
/-- the mirrored and the transposed ground's slownesses -/
def mirL (c r : Nat) (l : List Int) (rows : Bool) : List Int := (List.range (c * r)).map fun i => at0 l (if rows then (r - 1 - i / c) * c + i % c else i / c * c + c - 1 - i % c)
def trL (c r : Nat) (l : List Int) : List Int := (List.range (c * r)).map fun i => at0 l (i % r * c + i / r)
theorem mirL_len (c r : Nat) (l : List Int) (rows : Bool) : (mirL c r l rows).length = c * r := by simp [mirL]
theorem trL_len (c r : Nat) (l : List Int) : (trL c r l).length = c * r := by simp [trL]
theorem mirL_at {c r : Nat} {l : List Int} (g : Gr c r l) {a : Nat} (ha : a < l.length) : at0 (mirL c r l false) (mir c a) = at0 l a := by
 rw [g.len] at ha
 have h1 := (mir_facts g.c1 ha).1
 have h2 := mir_mir g.c1 ha
 unfold mirL
 rw [at0_map_range _ _ _ h1]
 have e : (mir c a) / c * c + c - 1 - (mir c a) % c = a := h2
 simp [e]
theorem trL_at {c r : Nat} {l : List Int} (g : Gr c r l) {a : Nat} (ha : a < l.length) : at0 (trL c r l) (acr c r a) = at0 l a := by
 rw [g.len] at ha
 have h1 := (acr_facts g.c1 ha).1
 rw [Nat.mul_comm r c] at h1
 have h2 := acr_acr g.c1 g.r1 ha
 unfold trL
 rw [at0_map_range _ _ _ h1]
 have e : acr c r a % r * c + acr c r a / r = a := h2
 rw [e]
theorem gr_of {c r c' r' : Nat} {l l' : List Int} (g : Gr c r l) (h1 : 1 ≤ c') (h2 : 1 ≤ r') (h3 : l'.length = c' * r') (h : ∀ i, i < l'.length → ∃ j, j < l.length ∧ at0 l' i = at0 l j) : Gr c' r' l' :=
 ⟨h1, h2, h3, fun i hi => by obtain ⟨j, hj, e⟩ := h i hi; rw [e]; exact g.lo j hj, fun i hi => by obtain ⟨j, hj, e⟩ := h i hi; rw [e]; exact g.hi j hj⟩
theorem mirL_gr {c r : Nat} {l : List Int} (g : Gr c r l) : Gr c r (mirL c r l false) :=
 gr_of g g.c1 g.r1 (mirL_len _ _ _ _) fun i hi => by
  rw [mirL_len] at hi
  refine ⟨mir c i, by rw [g.len]; exact (mir_facts g.c1 hi).1, ?_⟩
  have := mirL_at g (a := mir c i) (by rw [g.len]; exact (mir_facts g.c1 hi).1)
  rwa [mir_mir g.c1 hi] at this
theorem trL_gr {c r : Nat} {l : List Int} (g : Gr c r l) : Gr r c (trL c r l) :=
 gr_of g g.r1 g.c1 (by rw [trL_len, Nat.mul_comm]) fun i hi => by
  rw [trL_len, Nat.mul_comm] at hi
  have h1 := (acr_facts g.r1 hi).1
  refine ⟨acr r c i, by rw [g.len]; exact h1, ?_⟩
  have := trL_at g (a := acr r c i) (by rw [g.len]; exact h1)
  rwa [acr_acr g.r1 g.c1 hi] at this
/-- the times in the mirror, and across -/
theorem mir_times {c r : Nat} {l t u : List Int} {s : Nat} (g : Gr c r l) (hs : s < l.length) (h : IsT c l s t) (h' : IsT c (mirL c r l false) (mir c s) u) : ∀ i, i < l.length → at0 u (mir c i) = at0 t i :=
 IsT.iso (f := mir c) (g := mir c) (by rw [mirL_len, g.len]) (fun a ha => by rw [g.len] at ha ⊢; exact ⟨(mir_facts g.c1 ha).1, mir_mir g.c1 ha⟩) (fun a ha => by rw [g.len] at ha ⊢; exact ⟨(mir_facts g.c1 ha).1, mir_mir g.c1 ha⟩)
  (mir_cost g fun a ha => mirL_at g ha) hs h h'
theorem acr_times {c r : Nat} {l t u : List Int} {s : Nat} (g : Gr c r l) (hs : s < l.length) (h : IsT c l s t) (h' : IsT r (trL c r l) (acr c r s) u) : ∀ i, i < l.length → at0 u (acr c r i) = at0 t i :=
 IsT.iso (f := acr c r) (g := acr r c) (by rw [trL_len, g.len]) (fun a ha => by rw [g.len] at ha ⊢; exact ⟨by have := (acr_facts g.c1 ha).1; rwa [Nat.mul_comm r c] at this, acr_acr g.c1 g.r1 ha⟩)
  (fun a ha => by rw [g.len, Nat.mul_comm] at ha; have h1 := (acr_facts g.r1 ha).1; exact ⟨by rw [g.len]; exact h1, acr_acr g.r1 g.c1 ha⟩)
  (acr_cost g fun a ha => trL_at g ha) hs h h'
end Im
namespace Im
/-- the cell that a mirrored ground takes for column x, row y -/
def mirI (c r : Nat) (rows : Bool) (x y : Nat) : Nat := if rows then (r - 1 - y) * c + x else y * c + c - 1 - x
end Im
namespace Go.Proofs.YtdimmlljjmmdbaaGreatDoor
open Go.RowKit Go.Shelf
set_option maxHeartbeats 8000000
set_option maxRecDepth 100000
theorem c130 (c r : Nat) (A : Option Addr) (n cap : Nat) (rows : Bool) (x y bb gb : Nat) (w : World) (hc : c ≤ 16) (hr : r ≤ 16) (hx : x < c) (hy : y < r) (hb : w.cell? ⟨bb, 0, none⟩ = some (.bool rows)) (hg : w.heap[gb]? = some (.cells #[.int .i64 c, .int .i64 r, .slice A n cap] 35 (0, 0))) :
  Calls Tryz.prog 130 #[.int .i64 x, .int .i64 y, .pointer (some ⟨bb, 0, none⟩), .pointer (some ⟨gb, 0, none⟩)] w fun en w' => en = .returned (.int .i64 (Im.mirI c r rows x y : Nat)) ∧ w = w' := by
 have q0 : w.cell? ⟨gb, 0, none⟩ = some (.int .i64 c) := cell_at hg rfl
 have q1 : w.cell? ⟨gb, 1, none⟩ = some (.int .i64 r) := cell_at hg rfl
 have z0 := cell_lt q0
 have zb := cell_lt hb
 cases rows
 ·obtain ⟨p, hp⟩ : ∃ p, p = y * c := ⟨_, rfl⟩
  have hpb : p ≤ 16 * 16 := by rw [hp]; exact Nat.mul_le_mul (by omega) hc
  have hpc : (y : Int) * (c : Int) = (p : Int) := by rw [hp]; simp
  obtain ⟨u, hu⟩ : ∃ u, u = p + c := ⟨_, rfl⟩
  obtain ⟨v, hv⟩ : ∃ v, v = p + c - 1 := ⟨_, rfl⟩
  obtain ⟨k, hk⟩ : ∃ k, k = p + c - 1 - x := ⟨_, rfl⟩
  have e1 : IntKind.i64.wrap ((y : Int) * (c : Int)) = (p : Int) := by rw [hpc]; exact wrapI (by omega)
  have e2 : IntKind.i64.wrap ((p : Int) + (c : Int)) = (u : Int) := by rw [wrapI (by omega)]; omega
  have e3 : IntKind.i64.wrap ((u : Int) - 1) = (v : Int) := by rw [wrapI (by omega)]; omega
  have e4 : IntKind.i64.wrap ((v : Int) - (x : Int)) = (k : Int) := by rw [wrapI (by omega)]; omega
  have HV : Hid (Im.mirI c r false x y = k) := Lib.hid (by rw [hk, hp]; rfl)
  rw [HV.out]
  clear hp hpb hpc hu hv hk HV hg
  go_enter Tryz.func130, Tryz.ntmps130
  go_wp2
  go_ret
  exact ⟨rfl, rfl⟩
 ·obtain ⟨q, hq⟩ : ∃ q, q = r - 1 - y := ⟨_, rfl⟩
  obtain ⟨p, hp⟩ : ∃ p, p = q * c := ⟨_, rfl⟩
  have hpb : p ≤ 16 * 16 := by rw [hp]; exact Nat.mul_le_mul (by omega) hc
  have hpc : (q : Int) * (c : Int) = (p : Int) := by rw [hp]; simp
  obtain ⟨u, hu⟩ : ∃ u, u = r - 1 := ⟨_, rfl⟩
  obtain ⟨k, hk⟩ : ∃ k, k = p + x := ⟨_, rfl⟩
  have e1 : IntKind.i64.wrap ((r : Int) - 1) = (u : Int) := by rw [wrapI (by omega)]; omega
  have e2 : IntKind.i64.wrap ((u : Int) - (y : Int)) = (q : Int) := by rw [wrapI (by omega)]; omega
  have e3 : IntKind.i64.wrap ((q : Int) * (c : Int)) = (p : Int) := by rw [hpc]; exact wrapI (by omega)
  have e4 : IntKind.i64.wrap ((p : Int) + (x : Int)) = (k : Int) := by rw [wrapI (by omega)]; omega
  have HV : Hid (Im.mirI c r true x y = k) := Lib.hid (by rw [hk, hp, hq]; rfl)
  rw [HV.out]
  clear hp hpb hpc hu hq hk HV hg
  go_enter Tryz.func130, Tryz.ntmps130
  go_wp2
  go_ret
  exact ⟨rfl, rfl⟩
theorem c131 (c r : Nat) (A : Option Addr) (n cap : Nat) (x y gb : Nat) (w : World) (hc : c ≤ 16) (hr : r ≤ 16) (hx : x < r) (hy : y < c) (hg : w.heap[gb]? = some (.cells #[.int .i64 c, .int .i64 r, .slice A n cap] 35 (0, 0))) :
  Calls Tryz.prog 131 #[.int .i64 x, .int .i64 y, .pointer (some ⟨gb, 0, none⟩)] w fun en w' => en = .returned (.int .i64 (x * c + y : Nat)) ∧ w = w' := by
 have q0 : w.cell? ⟨gb, 0, none⟩ = some (.int .i64 c) := cell_at hg rfl
 have z0 := cell_lt q0
 obtain ⟨p, hp⟩ : ∃ p, p = x * c := ⟨_, rfl⟩
 have hpb : p ≤ 16 * 16 := by rw [hp]; exact Nat.mul_le_mul (by omega) hc
 have hpc : (x : Int) * (c : Int) = (p : Int) := by rw [hp]; simp
 obtain ⟨k, hk⟩ : ∃ k, k = p + y := ⟨_, rfl⟩
 have e1 : IntKind.i64.wrap ((x : Int) * (c : Int)) = (p : Int) := by rw [hpc]; exact wrapI (by omega)
 have e2 : IntKind.i64.wrap ((p : Int) + (y : Int)) = (k : Int) := by rw [wrapI (by omega)]; omega
 have HV : Hid (x * c + y = k) := Lib.hid (by rw [hk, hp])
 rw [HV.out]
 clear hp hpb hpc hk HV hg
 go_enter Tryz.func131, Tryz.ntmps131
 go_wp2
 go_ret
 exact ⟨rfl, rfl⟩
end Go.Proofs.YtdimmlljjmmdbaaGreatDoor
namespace Go.Proofs.YtdimmlljjmmdbaaGreatDoor
open Go.RowKit Go.Shelf
set_option maxHeartbeats 8000000
set_option maxRecDepth 100000
theorem mir_lt {c r : Nat} {rows : Bool} {x y : Nat} (hx : x < c) (hy : y < r) : Im.mirI c r rows x y < c * r := by
 unfold Im.mirI
 have key : ∀ q : Nat, q < r → q * c + c ≤ c * r := fun q hq => by
  have h := Nat.mul_le_mul_right c (show q + 1 ≤ r by omega)
  rw [Nat.add_mul, Nat.mul_comm r c] at h
  omega
 split
 ·have h := key (r - 1 - y) (by omega)
  omega
 ·have h := key y hy
  omega
theorem tr_lt {c r : Nat} {x y : Nat} (hx : x < r) (hy : y < c) : x * c + y < c * r := by
 have h := Nat.mul_le_mul_right c (show x + 1 ≤ r by omega)
 rw [Nat.add_mul, Nat.mul_comm r c] at h
 omega
theorem c129_m (c r : Nat) (A : Option Addr) (n cap : Nat) (l : List Int) (rows : Bool) (bb : Nat) (gb : Nat) (w : World) (g : Im.Gr c r l) (hc : c ≤ 16) (hr : r ≤ 16) (H : RdI w A n l) (hbb : w.cell? ⟨bb, 0, none⟩ = some (.bool rows)) (hg : w.heap[gb]? = some (.cells #[.int .i64 c, .int .i64 r, .slice A n cap] 35 (0, 0))) :
  Calls Tryz.prog 129 #[.agg #[.int .i64 c, .int .i64 r, .slice A n cap], .int .i64 c, .int .i64 r, .func (.func 130) #[] #[.pointer (some ⟨bb, 0, none⟩), .pointer (some ⟨gb, 0, none⟩)]] w fun en w' => ∃ og, en = .returned (.agg #[.int .i64 c, .int .i64 r, .slice (some ⟨og, 0, none⟩) n n]) ∧ RowI w' w.heap.size og n n (Im.mirL c r l rows) ∧ Below w.heap.size w w' := by
 have hln := H.len
 have hlr := g.len
 have hc1 := g.c1
 have hr1 := g.r1
 have hn256 : n ≤ 256 := by have : c * r ≤ 256 := Nat.mul_le_mul hc hr; omega
 have hn0 : 0 < n := by rw [← hln, hlr]; exact Nat.mul_pos hc1 hr1
 have HN : Hid (n = c * r) := Lib.hid (by omega)
 obtain ⟨ab, ao, rfl, zab⟩ := H.form hn0
 obtain ⟨i0, hi, hz0, hz1, hz2⟩ := info_parts info3
 have hmk1 := fun W => run_make_fill (P := Tryz.prog) 22 3 i0 (.int .i64 0) (fun _ => .int .i64 0) Tryz.underlying22 hi hz0 hz1 rfl n (by omega) (by rw [hz2]; omega) W
 have hsz3 : (Tryz.prog.info? 3).map (·.size) = some 1 := by rw [hi]; simp [hz1]
 obtain ⟨w1, hW⟩ : ∃ W, W = (((w.alloc (Obj.cells #[.int .i64 c, .int .i64 r, .slice (some ⟨ab, ao, none⟩) n cap] 35)).alloc (Obj.cells #[.int .i64 0, .int .i64 0, .slice none 0 0] 35)).alloc (Obj.cells (fillA (.int .i64 0) (fun _ => .int .i64 0) n 0) 3)).alloc (Obj.cells #[.int .i64 c, .int .i64 r, .slice (some ⟨w.heap.size + 1 + 1, 0, none⟩) n n] 35) := ⟨_, rfl⟩
 have hG1 : w1.heap[w.heap.size]? = some (.cells #[.int .i64 c, .int .i64 r, .slice (some ⟨ab, ao, none⟩) n cap] 35 (0, 0)) := by rw [hW]; exact heap_old (by simp <;> omega) (heap_old (by simp <;> omega) (heap_old (by simp <;> omega) (heap_new rfl)))
 have hZ1 : w1.heap[w.heap.size + 1]? = some (.cells #[.int .i64 0, .int .i64 0, .slice none 0 0] 35 (0, 0)) := by rw [hW]; exact heap_old (by simp <;> omega) (heap_old (by simp <;> omega) (heap_new (by simp)))
 have hO1 : w1.heap[w.heap.size + 1 + 1]? = some (.cells (fillA (.int .i64 0) (fun _ => .int .i64 0) n 0) 3 (0, 0)) := by rw [hW]; exact heap_old (by simp <;> omega) (heap_new (by simp))
 have hS1 : w1.heap[w.heap.size + 1 + 1 + 1]? = some (.cells #[.int .i64 c, .int .i64 r, .slice (some ⟨w.heap.size + 1 + 1, 0, none⟩) n n] 35 (0, 0)) := by rw [hW]; exact heap_new (by simp)
 have hB1 : Below w.heap.size w w1 := by rw [hW]; exact ((below2 _ _ _).alloc (by simp <;> omega) _).alloc (by simp <;> omega) _
 obtain ⟨w2, hW2⟩ : ∃ W, W = w1.setCells (w.heap.size + 1 + 1) 0 (encI l) := ⟨_, rfl⟩
 have hfs : (fillA (.int .i64 0) (fun _ => Value.int .i64 0) n 0).size = (encI l).toArray.size := by rw [fillA_size]; simp [encI, hln]
 have hO2 : w2.heap[w.heap.size + 1 + 1]? = some (.cells (encI l).toArray 3 (0, 0)) := by rw [hW2]; exact setCells_blk hO1 hfs
 have hG2 := (heap_setsO (encI l) 0 w1 (w.heap.size + 1 + 1) w.heap.size (by omega)).trans hG1
 have hZ2 := (heap_setsO (encI l) 0 w1 (w.heap.size + 1 + 1) (w.heap.size + 1) (by omega)).trans hZ1
 have hS2 := (heap_setsO (encI l) 0 w1 (w.heap.size + 1 + 1) (w.heap.size + 1 + 1 + 1) (by omega)).trans hS1
 have hB2 : Below w.heap.size w w2 := by rw [hW2]; exact hB1.grown (setCells_grown _ _ _ _).1 hB1.size (fun j hj => by cases hj; omega)
 rw [← hW2] at hG2 hZ2 hS2
 have H1 := H.below hB1
 have hcp : ∀ ty dc sc, (Builtin.copy_ #[22, 22] ty #[.slice (some ⟨w.heap.size + 1 + 1, 0, none⟩) n dc, .slice (some ⟨ab, ao, none⟩) n sc]).run Tryz.prog w1 = .ok (.int .i64 n) w2 := fun ty dc sc => by
  rw [hW2]
  exact run_copyN w1 22 22 ty 3 (w.heap.size + 1 + 1) 0 n dc ⟨ab, ao, none⟩ n sc 1 n (encI l) Tryz.underlying22 hsz3 (Nat.min_self n) (by simp [encI, hln]) (RdS.news H1 (by omega)) (fun j hj => by
   rw [Nat.zero_add]
   have hj' : j < n := by simpa [encI, hln] using hj
   rw [cell_at (i := j) (v := .int .i64 0) hO1 (by rw [fillA_get _ _ _ _ _ hj']; simp)]
   rfl) (fun j hj => by
   rw [Nat.zero_add]
   exact free_at hO1) (fun v hv => by
   obtain ⟨x, _, rfl⟩ := List.mem_map.1 hv
   rfl)
 have HLL : Hid ((Im.mirL c r l rows).length = n) := Lib.hid (by rw [Im.mirL_len]; omega)
 have HAT : Hid (∀ k, k < n → Im.at0 (Im.mirL c r l rows) k = Im.at0 l (Im.mirI c r rows (k % c) (k / c)) ∧ Im.mirI c r rows (k % c) (k / c) < n) := Lib.hid (fun k hk => by
  have hkc : k < c * r := by omega
  refine ⟨?_, ?_⟩
  ·exact (Im.at0_map_range _ _ _ hkc).trans (by unfold Im.mirI; cases rows <;> rfl)
  ·rw [HN.out]; exact mir_lt (Nat.mod_lt _ (by omega)) (Nat.div_lt_of_lt_mul hkc))
 obtain ⟨LL, hLL⟩ : ∃ L, L = Im.mirL c r l rows := ⟨_, rfl⟩
 rw [← hLL] at HLL HAT ⊢
 clear hLL
 have HR0 : Hid (RowI w2 w.heap.size (w.heap.size + 1 + 1) n n (Im.mix l LL 0)) := Lib.hid (by
  rw [Im.mix_zero]
  exact ⟨_, hO2, by simp [encI, hln], Nat.le_refl _, by omega, hln, by rw [List.take_of_length_le (by simp [encI, hln])], by omega⟩)
 have HGB2 := Lib.hid hG2
 have HZB2 := Lib.hid hZ2
 have HSB2 := Lib.hid hS2
 have HB2 := Lib.hid hB2
 have HH := Lib.hid H
 have HG0 := Lib.hid hg
 have KBOOL := Lib.hid hbb
 clear hG1 hZ1 hO1 hS1 hB1 hfs hO2 hG2 hZ2 hS2 hB2 H1 H hg hsz3 hbb
 simp only [hW] at hcp
 clear hW hW2
 have qs : w2.cell? ⟨w.heap.size + 1 + 1 + 1, 2, none⟩ = some (.slice (some ⟨w.heap.size + 1 + 1, 0, none⟩) n n) := cell_at HSB2.out rfl
 have zs := cell_lt qs
 go_enter Tryz.func129, Tryz.ntmps129
 go_wp2_with fail
 clear hcp hmk1 qs zs
 obtain ⟨og, hog⟩ : ∃ b, b = w.heap.size + 1 + 1 := ⟨_, rfl⟩
 obtain ⟨sb, hsb⟩ : ∃ b, b = w.heap.size + 1 + 1 + 1 := ⟨_, rfl⟩
 go_loopw [26] (fun i wr => ∃ k : Nat, k ≤ n ∧ i = .int .i64 k ∧ Hid (RowI wr w.heap.size (w.heap.size + 1 + 1) n n (Im.mix l LL k)) ∧ Hid (wr.heap[w.heap.size]? = some (.cells #[.int .i64 c, .int .i64 r, .slice (some ⟨ab, ao, none⟩) n cap] 35 (0, 0))) ∧ Hid (wr.heap[w.heap.size + 1]? = some (.cells #[.int .i64 0, .int .i64 0, .slice none 0 0] 35 (0, 0))) ∧ Hid (wr.heap[w.heap.size + 1 + 1 + 1]? = some (.cells #[.int .i64 c, .int .i64 r, .slice (some ⟨w.heap.size + 1 + 1, 0, none⟩) n n] 35 (0, 0))) ∧ Hid (Below w.heap.size w wr)) (fun i _ => n - (intOf i).toNat)
 case atStart => exact ⟨0, Nat.zero_le _, rfl, HR0, HGB2, HZB2, HSB2, HB2⟩
 case round =>
  clear HR0 HGB2 HZB2 HSB2 HB2
  obtain ⟨k, hk, rfl, HR, HGB, HZB, HSB, HB⟩ := hrel
  have hwk : IntKind.i64.wrap ((k : Int) + 1) = ((k + 1 : Nat) : Int) := by rw [wrapI (by omega)]; simp
  by_cases hlt : k < n
  rotate_left
  ·obtain rfl : n = k := by omega
   have HRF : Hid (RowI wr w.heap.size (w.heap.size + 1 + 1) n n LL) := Lib.hid (by
    have e : Im.mix l LL n = LL := by
     have h := Im.mix_full (a := l) (b := LL) (by rw [HLL.out]; omega)
     rwa [hln] at h
    rw [← e]; exact HR.out)
   have hZ := HZB.out
   have qs0 : wr.cell? ⟨w.heap.size + 1 + 1 + 1, 0, none⟩ = some (.int .i64 c) := cell_at HSB.out rfl
   have qs1 : wr.cell? ⟨w.heap.size + 1 + 1 + 1, 1, none⟩ = some (.int .i64 r) := cell_at HSB.out rfl
   have qs2 : wr.cell? ⟨w.heap.size + 1 + 1 + 1, 2, none⟩ = some (.slice (some ⟨w.heap.size + 1 + 1, 0, none⟩) n n) := cell_at HSB.out rfl
   have zs := cell_lt qs2
   go_wp2_with (refine wpList_store_blk rfl 35 _ _ rfl (w.heap.size + 1) _ rfl rfl hZ ?s1 ?s2 ?s3 ?_)
   case s1 => rfl
   case s2 => kernel_rfl
   case s3 => simp [Value.oneCell']
   intro w4 hT4 hg4 hs4
   have HB4 : Hid (Below w.heap.size w w4) := Lib.hid (HB.out.grown hg4 HB.out.size (fun j hj => by cases hj; omega))
   have HR4 : Hid (RowI w4 w.heap.size (w.heap.size + 1 + 1) n n LL) := Lib.hid (by
    obtain ⟨cs, h1, h2⟩ := HRF.out
    exact ⟨cs, (hg4.block _ (Array.getElem?_eq_some_iff.1 h1).1 (by simp)).trans h1, h2⟩)
   clear hg4 hs4 hZ qs0 qs1 qs2 zs
   have c0 := cell_at (i := 0) hT4 rfl
   have c1 := cell_at (i := 1) hT4 rfl
   have c2 := cell_at (i := 2) hT4 rfl
   go_wp2
   exact bodyPost_ret (results_blk rfl rfl hT4 _ Tryz.underlying35 rfl (by kernel_rfl)) rfl ⟨w.heap.size + 1 + 1, rfl, HR4.out, HB4.out⟩
  have hlt2 : (k : Int) < (n : Int) := by omega
  have hk0 : (0 : Int) ≤ (k : Int) := by omega
  have hd0 : ((c : Int) == 0) = false := by simp; omega
  have hdz : ¬ c = 0 := by omega
  have hmx : (k : Int).tmod (c : Int) = ((k % c : Nat) : Int) := Int.ofNat_tmod _ _
  have hqx : (k : Int).tdiv (c : Int) = ((k / c : Nat) : Int) := Int.ofNat_tdiv _ _
  have hwx : IntKind.i64.wrap ((k / c : Nat) : Int) = ((k / c : Nat) : Int) := wrapN (Nat.le_trans (Nat.div_le_self k c) (by omega))
  have hx1 : k % c < c := Nat.mod_lt _ (by omega)
  have hy1 : k / c < r := Nat.div_lt_of_lt_mul (by have := HN.out; omega)
  obtain ⟨hat, hjn⟩ := HAT.out k hlt
  have HSET : Hid ((Im.mix l LL k).set k (Im.at0 LL k) = Im.mix l LL (k + 1)) := Lib.hid (Im.mix_set (by omega))
  rw [hat] at HSET
  have HCON : Hid (∀ W, Below w.heap.size w W → Calls Tryz.prog 130 #[.int .i64 ((k % c : Nat) : Int), .int .i64 ((k / c : Nat) : Int), .pointer (some ⟨bb, 0, none⟩), .pointer (some ⟨gb, 0, none⟩)] W fun en w' => en = .returned (.int .i64 ((Im.mirI c r rows (k % c) (k / c) : Nat) : Int)) ∧ W = w') := Lib.hid (fun W hb => c130 c r _ n cap rows (k % c) (k / c) bb gb W hc hr hx1 hy1 ((hb.cell (p := ⟨bb, 0, none⟩) (cell_lt KBOOL.out)).trans KBOOL.out) (blkb HG0.out hb))
  generalize Im.mirI c r rows (k % c) (k / c) = j at hjn HSET HCON
  generalize k % c = x0 at hmx hx1 HCON
  generalize k / c = y0 at hqx hwx hy1 HCON
  have hjn2 : (j : Int) < (n : Int) := by omega
  have hj0 : (0 : Int) ≤ (j : Int) := by omega
  have HX : Hid (∀ W, Below w.heap.size w W → W.cell? ⟨ab, ao + j, none⟩ = some (.int .i64 (Im.at0 l j)) ∧ ab < W.heap.size) := Lib.hid (fun W hb => ⟨(HH.out.below hb).get hjn, Nat.lt_of_lt_of_le zab hb.size⟩)
  generalize Im.at0 l j = x at HSET HX
  have qx := (HX.out wr HB.out).1
  have zx := (HX.out wr HB.out).2
  have qs2 : wr.cell? ⟨w.heap.size + 1 + 1 + 1, 2, none⟩ = some (.slice (some ⟨w.heap.size + 1 + 1, 0, none⟩) n n) := cell_at HSB.out rfl
  have qg2 : wr.cell? ⟨w.heap.size, 2, none⟩ = some (.slice (some ⟨ab, ao, none⟩) n cap) := cell_at HGB.out rfl
  have zs := cell_lt qs2
  have zg := cell_lt qg2
  go_wp2_with fail
  refine wp_region_planL [(0, true), (1, true), (2, true), (3, true), (4, true), (5, true), (6, true), (7, true), (8, true), (9, true), (10, true), (11, true), (12, false), (13, true), (14, true), (15, true)] wr.heap.size 16 (by kernel_rfl) (by kernel_rfl) (Nat.le_refl _) (fun _ _ d _ _ h => by cases d <;> exact h) ?_
  have hC : Below wr.heap.size wr wr := Below.refl _ _
  repeat (first | (refine wpPlanLA_skip _ rfl (by rfl) ?_; simp only [Act.put, List.setIfInBounds_toArray, List.set_cons_zero, List.set_cons_succ]) | (refine wpPlanLA_soft _ ?_ rfl (by rfl) ?_ ?_; rotate_left; (intro wq hq hcq; go_simp; first | exact rfl | exact ⟨rfl, rfl⟩); simp only [Act.put, List.setIfInBounds_toArray, List.set_cons_zero, List.set_cons_succ]))
  refine wpPlanLA_hard _ rfl (by rfl) (fun w3 hS K hK => ?_)
  replace hC := hC.call hS rfl
  go_simp
  refine (HCON.out w3 (HB.out.call hS rfl)).mono ?_
  rintro e w' ⟨rfl, rfl⟩
  refine hK _ _ hC ?_
  clear hK K
  try simp only [Act.put, List.setIfInBounds_toArray, List.set_cons_zero, List.set_cons_succ]
  repeat (first | (refine wpPlanLA_skip _ rfl (by rfl) ?_; simp only [Act.put, List.setIfInBounds_toArray, List.set_cons_zero, List.set_cons_succ]) | (refine wpPlanLA_soft _ ?_ rfl (by rfl) ?_ ?_; rotate_left; (intro wq hq hcq; go_simp; first | exact rfl | exact ⟨rfl, rfl⟩); simp only [Act.put, List.setIfInBounds_toArray, List.set_cons_zero, List.set_cons_succ]))
  refine wpPlanLA_last _ rfl (by rfl) (fun w4 hS4 K hK => ?_)
  replace hC := hC.call hS4 rfl
  have HB4 := Lib.hid (HB.out.call hC rfl)
  have HR4 := Lib.hid (HR.out.below hC)
  have HG4 := Lib.hid (blkb HGB.out hC)
  have HZ4 := Lib.hid (blkb HZB.out hC)
  have HS4 := Lib.hid (blkb HSB.out hC)
  have qc := (HR4.out.cell hlt).1
  have qf := (HR4.out.cell hlt).2.1
  have zo := (HR4.out.cell hlt).2.2
  clear hS hS4 qx zx qs2 qg2 zs zg hC
  go_simp
  refine hK _ _ (fun w5 hS5 => ?_)
  clear hK K
  have HB5 := Lib.hid ((HB4.out.setCell (p := ⟨w.heap.size + 1 + 1, k, none⟩) (by show _ ≤ w.heap.size + 1 + 1; omega) (.int .i64 x)).call hS5 rfl)
  have HR5 : Hid (RowI w5 w.heap.size (w.heap.size + 1 + 1) n n (Im.mix l LL (k + 1))) := Lib.hid (by rw [← HSET.out]; exact (HR4.out.set k x).below hS5)
  have HG5 := Lib.hid (blkb ((set_far _ (by dsimp only; omega)).trans HG4.out) hS5)
  have HZ5 := Lib.hid (blkb ((set_far _ (by dsimp only; omega)).trans HZ4.out) hS5)
  have HS5 := Lib.hid (blkb ((set_far _ (by dsimp only; omega)).trans HS4.out) hS5)
  clear hS5 qc qf zo HB4 HR4 HG4 HZ4 HS4
  go_wp2
  go_roundw
  case rel => exact ⟨k + 1, by omega, by go_num, HR5, HG5, HZ5, HS5, HB5⟩
  case measure => simp [intOf]; omega
theorem c129_t (c r : Nat) (A : Option Addr) (n cap : Nat) (l : List Int) (gb : Nat) (w : World) (g : Im.Gr c r l) (hc : c ≤ 16) (hr : r ≤ 16) (H : RdI w A n l) (hg : w.heap[gb]? = some (.cells #[.int .i64 c, .int .i64 r, .slice A n cap] 35 (0, 0))) :
  Calls Tryz.prog 129 #[.agg #[.int .i64 c, .int .i64 r, .slice A n cap], .int .i64 r, .int .i64 c, .func (.func 131) #[] #[.pointer (some ⟨gb, 0, none⟩)]] w fun en w' => ∃ og, en = .returned (.agg #[.int .i64 r, .int .i64 c, .slice (some ⟨og, 0, none⟩) n n]) ∧ RowI w' w.heap.size og n n (Im.trL c r l) ∧ Below w.heap.size w w' := by
 have hln := H.len
 have hlr := g.len
 have hc1 := g.c1
 have hr1 := g.r1
 have hn256 : n ≤ 256 := by have : c * r ≤ 256 := Nat.mul_le_mul hc hr; omega
 have hn0 : 0 < n := by rw [← hln, hlr]; exact Nat.mul_pos hc1 hr1
 have HN : Hid (n = c * r) := Lib.hid (by omega)
 obtain ⟨ab, ao, rfl, zab⟩ := H.form hn0
 obtain ⟨i0, hi, hz0, hz1, hz2⟩ := info_parts info3
 have hmk1 := fun W => run_make_fill (P := Tryz.prog) 22 3 i0 (.int .i64 0) (fun _ => .int .i64 0) Tryz.underlying22 hi hz0 hz1 rfl n (by omega) (by rw [hz2]; omega) W
 have hsz3 : (Tryz.prog.info? 3).map (·.size) = some 1 := by rw [hi]; simp [hz1]
 obtain ⟨w1, hW⟩ : ∃ W, W = (((w.alloc (Obj.cells #[.int .i64 c, .int .i64 r, .slice (some ⟨ab, ao, none⟩) n cap] 35)).alloc (Obj.cells #[.int .i64 0, .int .i64 0, .slice none 0 0] 35)).alloc (Obj.cells (fillA (.int .i64 0) (fun _ => .int .i64 0) n 0) 3)).alloc (Obj.cells #[.int .i64 r, .int .i64 c, .slice (some ⟨w.heap.size + 1 + 1, 0, none⟩) n n] 35) := ⟨_, rfl⟩
 have hG1 : w1.heap[w.heap.size]? = some (.cells #[.int .i64 c, .int .i64 r, .slice (some ⟨ab, ao, none⟩) n cap] 35 (0, 0)) := by rw [hW]; exact heap_old (by simp <;> omega) (heap_old (by simp <;> omega) (heap_old (by simp <;> omega) (heap_new rfl)))
 have hZ1 : w1.heap[w.heap.size + 1]? = some (.cells #[.int .i64 0, .int .i64 0, .slice none 0 0] 35 (0, 0)) := by rw [hW]; exact heap_old (by simp <;> omega) (heap_old (by simp <;> omega) (heap_new (by simp)))
 have hO1 : w1.heap[w.heap.size + 1 + 1]? = some (.cells (fillA (.int .i64 0) (fun _ => .int .i64 0) n 0) 3 (0, 0)) := by rw [hW]; exact heap_old (by simp <;> omega) (heap_new (by simp))
 have hS1 : w1.heap[w.heap.size + 1 + 1 + 1]? = some (.cells #[.int .i64 r, .int .i64 c, .slice (some ⟨w.heap.size + 1 + 1, 0, none⟩) n n] 35 (0, 0)) := by rw [hW]; exact heap_new (by simp)
 have hB1 : Below w.heap.size w w1 := by rw [hW]; exact ((below2 _ _ _).alloc (by simp <;> omega) _).alloc (by simp <;> omega) _
 obtain ⟨w2, hW2⟩ : ∃ W, W = w1.setCells (w.heap.size + 1 + 1) 0 (encI l) := ⟨_, rfl⟩
 have hfs : (fillA (.int .i64 0) (fun _ => Value.int .i64 0) n 0).size = (encI l).toArray.size := by rw [fillA_size]; simp [encI, hln]
 have hO2 : w2.heap[w.heap.size + 1 + 1]? = some (.cells (encI l).toArray 3 (0, 0)) := by rw [hW2]; exact setCells_blk hO1 hfs
 have hG2 := (heap_setsO (encI l) 0 w1 (w.heap.size + 1 + 1) w.heap.size (by omega)).trans hG1
 have hZ2 := (heap_setsO (encI l) 0 w1 (w.heap.size + 1 + 1) (w.heap.size + 1) (by omega)).trans hZ1
 have hS2 := (heap_setsO (encI l) 0 w1 (w.heap.size + 1 + 1) (w.heap.size + 1 + 1 + 1) (by omega)).trans hS1
 have hB2 : Below w.heap.size w w2 := by rw [hW2]; exact hB1.grown (setCells_grown _ _ _ _).1 hB1.size (fun j hj => by cases hj; omega)
 rw [← hW2] at hG2 hZ2 hS2
 have H1 := H.below hB1
 have hcp : ∀ ty dc sc, (Builtin.copy_ #[22, 22] ty #[.slice (some ⟨w.heap.size + 1 + 1, 0, none⟩) n dc, .slice (some ⟨ab, ao, none⟩) n sc]).run Tryz.prog w1 = .ok (.int .i64 n) w2 := fun ty dc sc => by
  rw [hW2]
  exact run_copyN w1 22 22 ty 3 (w.heap.size + 1 + 1) 0 n dc ⟨ab, ao, none⟩ n sc 1 n (encI l) Tryz.underlying22 hsz3 (Nat.min_self n) (by simp [encI, hln]) (RdS.news H1 (by omega)) (fun j hj => by
   rw [Nat.zero_add]
   have hj' : j < n := by simpa [encI, hln] using hj
   rw [cell_at (i := j) (v := .int .i64 0) hO1 (by rw [fillA_get _ _ _ _ _ hj']; simp)]
   rfl) (fun j hj => by
   rw [Nat.zero_add]
   exact free_at hO1) (fun v hv => by
   obtain ⟨x, _, rfl⟩ := List.mem_map.1 hv
   rfl)
 have HLL : Hid ((Im.trL c r l).length = n) := Lib.hid (by rw [Im.trL_len]; omega)
 have HAT : Hid (∀ k, k < n → Im.at0 (Im.trL c r l) k = Im.at0 l ((k % r * c + k / r)) ∧ (k % r * c + k / r) < n) := Lib.hid (fun k hk => by
  have hkc : k < c * r := by omega
  refine ⟨?_, ?_⟩
  ·exact (Im.at0_map_range _ _ _ hkc).trans rfl
  ·rw [HN.out]; exact tr_lt (Nat.mod_lt _ (by omega)) (Nat.div_lt_of_lt_mul (by rw [Nat.mul_comm]; exact hkc)))
 obtain ⟨LL, hLL⟩ : ∃ L, L = Im.trL c r l := ⟨_, rfl⟩
 rw [← hLL] at HLL HAT ⊢
 clear hLL
 have HR0 : Hid (RowI w2 w.heap.size (w.heap.size + 1 + 1) n n (Im.mix l LL 0)) := Lib.hid (by
  rw [Im.mix_zero]
  exact ⟨_, hO2, by simp [encI, hln], Nat.le_refl _, by omega, hln, by rw [List.take_of_length_le (by simp [encI, hln])], by omega⟩)
 have HGB2 := Lib.hid hG2
 have HZB2 := Lib.hid hZ2
 have HSB2 := Lib.hid hS2
 have HB2 := Lib.hid hB2
 have HH := Lib.hid H
 have HG0 := Lib.hid hg
 clear hG1 hZ1 hO1 hS1 hB1 hfs hO2 hG2 hZ2 hS2 hB2 H1 H hg hsz3
 simp only [hW] at hcp
 clear hW hW2
 have qs : w2.cell? ⟨w.heap.size + 1 + 1 + 1, 2, none⟩ = some (.slice (some ⟨w.heap.size + 1 + 1, 0, none⟩) n n) := cell_at HSB2.out rfl
 have zs := cell_lt qs
 go_enter Tryz.func129, Tryz.ntmps129
 go_wp2_with fail
 clear hcp hmk1 qs zs
 obtain ⟨og, hog⟩ : ∃ b, b = w.heap.size + 1 + 1 := ⟨_, rfl⟩
 obtain ⟨sb, hsb⟩ : ∃ b, b = w.heap.size + 1 + 1 + 1 := ⟨_, rfl⟩
 go_loopw [26] (fun i wr => ∃ k : Nat, k ≤ n ∧ i = .int .i64 k ∧ Hid (RowI wr w.heap.size (w.heap.size + 1 + 1) n n (Im.mix l LL k)) ∧ Hid (wr.heap[w.heap.size]? = some (.cells #[.int .i64 c, .int .i64 r, .slice (some ⟨ab, ao, none⟩) n cap] 35 (0, 0))) ∧ Hid (wr.heap[w.heap.size + 1]? = some (.cells #[.int .i64 0, .int .i64 0, .slice none 0 0] 35 (0, 0))) ∧ Hid (wr.heap[w.heap.size + 1 + 1 + 1]? = some (.cells #[.int .i64 r, .int .i64 c, .slice (some ⟨w.heap.size + 1 + 1, 0, none⟩) n n] 35 (0, 0))) ∧ Hid (Below w.heap.size w wr)) (fun i _ => n - (intOf i).toNat)
 case atStart => exact ⟨0, Nat.zero_le _, rfl, HR0, HGB2, HZB2, HSB2, HB2⟩
 case round =>
  clear HR0 HGB2 HZB2 HSB2 HB2
  obtain ⟨k, hk, rfl, HR, HGB, HZB, HSB, HB⟩ := hrel
  have hwk : IntKind.i64.wrap ((k : Int) + 1) = ((k + 1 : Nat) : Int) := by rw [wrapI (by omega)]; simp
  by_cases hlt : k < n
  rotate_left
  ·obtain rfl : n = k := by omega
   have HRF : Hid (RowI wr w.heap.size (w.heap.size + 1 + 1) n n LL) := Lib.hid (by
    have e : Im.mix l LL n = LL := by
     have h := Im.mix_full (a := l) (b := LL) (by rw [HLL.out]; omega)
     rwa [hln] at h
    rw [← e]; exact HR.out)
   have hZ := HZB.out
   have qs0 : wr.cell? ⟨w.heap.size + 1 + 1 + 1, 0, none⟩ = some (.int .i64 r) := cell_at HSB.out rfl
   have qs1 : wr.cell? ⟨w.heap.size + 1 + 1 + 1, 1, none⟩ = some (.int .i64 c) := cell_at HSB.out rfl
   have qs2 : wr.cell? ⟨w.heap.size + 1 + 1 + 1, 2, none⟩ = some (.slice (some ⟨w.heap.size + 1 + 1, 0, none⟩) n n) := cell_at HSB.out rfl
   have zs := cell_lt qs2
   go_wp2_with (refine wpList_store_blk rfl 35 _ _ rfl (w.heap.size + 1) _ rfl rfl hZ ?s1 ?s2 ?s3 ?_)
   case s1 => rfl
   case s2 => kernel_rfl
   case s3 => simp [Value.oneCell']
   intro w4 hT4 hg4 hs4
   have HB4 : Hid (Below w.heap.size w w4) := Lib.hid (HB.out.grown hg4 HB.out.size (fun j hj => by cases hj; omega))
   have HR4 : Hid (RowI w4 w.heap.size (w.heap.size + 1 + 1) n n LL) := Lib.hid (by
    obtain ⟨cs, h1, h2⟩ := HRF.out
    exact ⟨cs, (hg4.block _ (Array.getElem?_eq_some_iff.1 h1).1 (by simp)).trans h1, h2⟩)
   clear hg4 hs4 hZ qs0 qs1 qs2 zs
   have c0 := cell_at (i := 0) hT4 rfl
   have c1 := cell_at (i := 1) hT4 rfl
   have c2 := cell_at (i := 2) hT4 rfl
   go_wp2
   exact bodyPost_ret (results_blk rfl rfl hT4 _ Tryz.underlying35 rfl (by kernel_rfl)) rfl ⟨w.heap.size + 1 + 1, rfl, HR4.out, HB4.out⟩
  have hlt2 : (k : Int) < (n : Int) := by omega
  have hk0 : (0 : Int) ≤ (k : Int) := by omega
  have hd0 : ((r : Int) == 0) = false := by simp; omega
  have hdz : ¬ r = 0 := by omega
  have hmx : (k : Int).tmod (r : Int) = ((k % r : Nat) : Int) := Int.ofNat_tmod _ _
  have hqx : (k : Int).tdiv (r : Int) = ((k / r : Nat) : Int) := Int.ofNat_tdiv _ _
  have hwx : IntKind.i64.wrap ((k / r : Nat) : Int) = ((k / r : Nat) : Int) := wrapN (Nat.le_trans (Nat.div_le_self k r) (by omega))
  have hx1 : k % r < r := Nat.mod_lt _ (by omega)
  have hy1 : k / r < c := Nat.div_lt_of_lt_mul (by have := HN.out; rw [Nat.mul_comm]; omega)
  obtain ⟨hat, hjn⟩ := HAT.out k hlt
  have HSET : Hid ((Im.mix l LL k).set k (Im.at0 LL k) = Im.mix l LL (k + 1)) := Lib.hid (Im.mix_set (by omega))
  rw [hat] at HSET
  have HCON : Hid (∀ W, Below w.heap.size w W → Calls Tryz.prog 131 #[.int .i64 ((k % r : Nat) : Int), .int .i64 ((k / r : Nat) : Int), .pointer (some ⟨gb, 0, none⟩)] W fun en w' => en = .returned (.int .i64 ((k % r * c + k / r : Nat) : Int)) ∧ W = w') := Lib.hid (fun W hb => c131 c r _ n cap (k % r) (k / r) gb W hc hr hx1 hy1 (blkb HG0.out hb))
  generalize (k % r * c + k / r) = j at hjn HSET HCON
  generalize k % r = x0 at hmx hx1 HCON
  generalize k / r = y0 at hqx hwx hy1 HCON
  have hjn2 : (j : Int) < (n : Int) := by omega
  have hj0 : (0 : Int) ≤ (j : Int) := by omega
  have HX : Hid (∀ W, Below w.heap.size w W → W.cell? ⟨ab, ao + j, none⟩ = some (.int .i64 (Im.at0 l j)) ∧ ab < W.heap.size) := Lib.hid (fun W hb => ⟨(HH.out.below hb).get hjn, Nat.lt_of_lt_of_le zab hb.size⟩)
  generalize Im.at0 l j = x at HSET HX
  have qx := (HX.out wr HB.out).1
  have zx := (HX.out wr HB.out).2
  have qs2 : wr.cell? ⟨w.heap.size + 1 + 1 + 1, 2, none⟩ = some (.slice (some ⟨w.heap.size + 1 + 1, 0, none⟩) n n) := cell_at HSB.out rfl
  have qg2 : wr.cell? ⟨w.heap.size, 2, none⟩ = some (.slice (some ⟨ab, ao, none⟩) n cap) := cell_at HGB.out rfl
  have zs := cell_lt qs2
  have zg := cell_lt qg2
  go_wp2_with fail
  refine wp_region_planL [(0, true), (1, true), (2, true), (3, true), (4, true), (5, true), (6, true), (7, true), (8, true), (9, true), (10, true), (11, true), (12, false), (13, true), (14, true), (15, true)] wr.heap.size 16 (by kernel_rfl) (by kernel_rfl) (Nat.le_refl _) (fun _ _ d _ _ h => by cases d <;> exact h) ?_
  have hC : Below wr.heap.size wr wr := Below.refl _ _
  repeat (first | (refine wpPlanLA_skip _ rfl (by rfl) ?_; simp only [Act.put, List.setIfInBounds_toArray, List.set_cons_zero, List.set_cons_succ]) | (refine wpPlanLA_soft _ ?_ rfl (by rfl) ?_ ?_; rotate_left; (intro wq hq hcq; go_simp; first | exact rfl | exact ⟨rfl, rfl⟩); simp only [Act.put, List.setIfInBounds_toArray, List.set_cons_zero, List.set_cons_succ]))
  refine wpPlanLA_hard _ rfl (by rfl) (fun w3 hS K hK => ?_)
  replace hC := hC.call hS rfl
  go_simp
  refine (HCON.out w3 (HB.out.call hS rfl)).mono ?_
  rintro e w' ⟨rfl, rfl⟩
  refine hK _ _ hC ?_
  clear hK K
  try simp only [Act.put, List.setIfInBounds_toArray, List.set_cons_zero, List.set_cons_succ]
  repeat (first | (refine wpPlanLA_skip _ rfl (by rfl) ?_; simp only [Act.put, List.setIfInBounds_toArray, List.set_cons_zero, List.set_cons_succ]) | (refine wpPlanLA_soft _ ?_ rfl (by rfl) ?_ ?_; rotate_left; (intro wq hq hcq; go_simp; first | exact rfl | exact ⟨rfl, rfl⟩); simp only [Act.put, List.setIfInBounds_toArray, List.set_cons_zero, List.set_cons_succ]))
  refine wpPlanLA_last _ rfl (by rfl) (fun w4 hS4 K hK => ?_)
  replace hC := hC.call hS4 rfl
  have HB4 := Lib.hid (HB.out.call hC rfl)
  have HR4 := Lib.hid (HR.out.below hC)
  have HG4 := Lib.hid (blkb HGB.out hC)
  have HZ4 := Lib.hid (blkb HZB.out hC)
  have HS4 := Lib.hid (blkb HSB.out hC)
  have qc := (HR4.out.cell hlt).1
  have qf := (HR4.out.cell hlt).2.1
  have zo := (HR4.out.cell hlt).2.2
  clear hS hS4 qx zx qs2 qg2 zs zg hC
  go_simp
  refine hK _ _ (fun w5 hS5 => ?_)
  clear hK K
  have HB5 := Lib.hid ((HB4.out.setCell (p := ⟨w.heap.size + 1 + 1, k, none⟩) (by show _ ≤ w.heap.size + 1 + 1; omega) (.int .i64 x)).call hS5 rfl)
  have HR5 : Hid (RowI w5 w.heap.size (w.heap.size + 1 + 1) n n (Im.mix l LL (k + 1))) := Lib.hid (by rw [← HSET.out]; exact (HR4.out.set k x).below hS5)
  have HG5 := Lib.hid (blkb ((set_far _ (by dsimp only; omega)).trans HG4.out) hS5)
  have HZ5 := Lib.hid (blkb ((set_far _ (by dsimp only; omega)).trans HZ4.out) hS5)
  have HS5 := Lib.hid (blkb ((set_far _ (by dsimp only; omega)).trans HS4.out) hS5)
  clear hS5 qc qf zo HB4 HR4 HG4 HZ4 HS4
  go_wp2
  go_roundw
  case rel => exact ⟨k + 1, by omega, by go_num, HR5, HG5, HZ5, HS5, HB5⟩
  case measure => simp [intOf]; omega
end Go.Proofs.YtdimmlljjmmdbaaGreatDoor
namespace Go.Proofs.YtdimmlljjmmdbaaGreatDoor
open Go.RowKit Go.Shelf
set_option maxHeartbeats 8000000
set_option maxRecDepth 100000
theorem c66_ok (c r : Nat) (A : Option Addr) (n cap : Nat) (l : List Int) (rows : Bool) (w : World) (g : Im.Gr c r l) (hc : c ≤ 16) (hr : r ≤ 16) (H : RdI w A n l) :
  Calls Tryz.prog 66 #[.agg #[.int .i64 c, .int .i64 r, .slice A n cap], .bool rows] w fun en w' => ∃ og, en = .returned (.tuple #[.agg #[.int .i64 c, .int .i64 r, .slice (some ⟨og, 0, none⟩) n n], .int .i64 0]) ∧ RowI w' w.heap.size og n n (Im.mirL c r l rows) ∧ Below w.heap.size w w' := by
 have hl : n ≤ 1000000 := by have := H.len; have := g.len; have : c * r ≤ 256 := Nat.mul_le_mul hc hr; omega
 obtain ⟨w0, hW⟩ : ∃ W, W = ((w.alloc (Obj.cells #[.int .i64 c, .int .i64 r, .slice A n cap] 35)).alloc (Obj.cells #[.bool rows] 4)).alloc (Obj.cells #[.int .i64 0, .int .i64 0, .slice none 0 0] 35) := ⟨_, rfl⟩
 have hT0 : w0.heap[w.heap.size]? = some (.cells #[.int .i64 c, .int .i64 r, .slice A n cap] 35 (0, 0)) := by rw [hW]; exact heap_old (by simp <;> omega) (heap_old (by simp <;> omega) (heap_new (by simp)))
 have hT1 : w0.heap[w.heap.size + 1]? = some (.cells #[.bool rows] 4 (0, 0)) := by rw [hW]; exact heap_old (by simp <;> omega) (heap_new (by simp))
 have hT2 : w0.heap[w.heap.size + 1 + 1]? = some (.cells #[.int .i64 0, .int .i64 0, .slice none 0 0] 35 (0, 0)) := by rw [hW]; exact heap_new (by simp)
 have hB0 : Below w.heap.size w w0 := by rw [hW]; exact ((((Below.refl _ _).alloc (by first | omega | (simp <;> omega)) _).alloc (by first | omega | (simp <;> omega)) _).alloc (by first | omega | (simp <;> omega)) _)
 replace H := H.below hB0
 go_enter Tryz.func66, Tryz.ntmps66
 go_wp2_with fail
 rw [← hW]
 clear hW
 have qhT0_0 : w0.cell? ⟨w.heap.size, 0, none⟩ = some (.int .i64 c) := cell_at hT0 rfl
 have qhT0_1 : w0.cell? ⟨w.heap.size, 1, none⟩ = some (.int .i64 r) := cell_at hT0 rfl
 have qhT0_2 : w0.cell? ⟨w.heap.size, 2, none⟩ = some (.slice A n cap) := cell_at hT0 rfl
 have qhT1_0 : w0.cell? ⟨w.heap.size + 1, 0, none⟩ = some (.bool rows) := cell_at hT1 rfl
 have qhT2_0 : w0.cell? ⟨w.heap.size + 1 + 1, 0, none⟩ = some (.int .i64 0) := cell_at hT2 rfl
 have qhT2_1 : w0.cell? ⟨w.heap.size + 1 + 1, 1, none⟩ = some (.int .i64 0) := cell_at hT2 rfl
 have qhT2_2 : w0.cell? ⟨w.heap.size + 1 + 1, 2, none⟩ = some (.slice none 0 0) := cell_at hT2 rfl
 go_wp2_with fail
 refine (c64 c r A n cap l _ hl H).mono ?_
 rintro e w1 ⟨rfl, hb⟩
 clear qhT0_0 qhT0_1 qhT0_2 qhT1_0 qhT2_0 qhT2_1 qhT2_2
 have hS := hb
 have hB1 := hB0.call hS rfl
 replace hT0 := blkb hT0 hS
 replace hT1 := blkb hT1 hS
 replace hT2 := blkb hT2 hS
 replace H := H.below hS
 clear hS hB0
 have qhT0_0 : w1.cell? ⟨w.heap.size, 0, none⟩ = some (.int .i64 c) := cell_at hT0 rfl
 have qhT0_1 : w1.cell? ⟨w.heap.size, 1, none⟩ = some (.int .i64 r) := cell_at hT0 rfl
 have qhT0_2 : w1.cell? ⟨w.heap.size, 2, none⟩ = some (.slice A n cap) := cell_at hT0 rfl
 have qhT1_0 : w1.cell? ⟨w.heap.size + 1, 0, none⟩ = some (.bool rows) := cell_at hT1 rfl
 have qhT2_0 : w1.cell? ⟨w.heap.size + 1 + 1, 0, none⟩ = some (.int .i64 0) := cell_at hT2 rfl
 have qhT2_1 : w1.cell? ⟨w.heap.size + 1 + 1, 1, none⟩ = some (.int .i64 0) := cell_at hT2 rfl
 have qhT2_2 : w1.cell? ⟨w.heap.size + 1 + 1, 2, none⟩ = some (.slice none 0 0) := cell_at hT2 rfl
 clear hb
 rw [Mo.ground_of g hc hr]
 have HLO := Lib.hid hB1.size
 have HRB := Lib.hid (Array.getElem?_eq_some_iff.1 hT2).1
 go_wp2_with fail
 refine (c129_m c r A n cap l rows (w.heap.size + 1) w.heap.size _ g hc hr H (cell_at hT1 rfl) hT0).mono ?_
 rintro e w2 ⟨og, rfl, hrow, hb⟩
 clear qhT0_0 qhT0_1 qhT0_2 qhT1_0 qhT2_0 qhT2_1 qhT2_2
 have hS := hb
 have hB2 := hB1.call hS rfl
 replace hT0 := blkb hT0 hS
 replace hT1 := blkb hT1 hS
 replace hT2 := blkb hT2 hS
 replace H := H.below hS
 clear hS hB1
 have qhT0_0 : w2.cell? ⟨w.heap.size, 0, none⟩ = some (.int .i64 c) := cell_at hT0 rfl
 have qhT0_1 : w2.cell? ⟨w.heap.size, 1, none⟩ = some (.int .i64 r) := cell_at hT0 rfl
 have qhT0_2 : w2.cell? ⟨w.heap.size, 2, none⟩ = some (.slice A n cap) := cell_at hT0 rfl
 have qhT1_0 : w2.cell? ⟨w.heap.size + 1, 0, none⟩ = some (.bool rows) := cell_at hT1 rfl
 have qhT2_0 : w2.cell? ⟨w.heap.size + 1 + 1, 0, none⟩ = some (.int .i64 0) := cell_at hT2 rfl
 have qhT2_1 : w2.cell? ⟨w.heap.size + 1 + 1, 1, none⟩ = some (.int .i64 0) := cell_at hT2 rfl
 have qhT2_2 : w2.cell? ⟨w.heap.size + 1 + 1, 2, none⟩ = some (.slice none 0 0) := cell_at hT2 rfl
 clear hb
 go_wp2_with (refine wpList_store_blk rfl 35 _ _ rfl (w.heap.size + 1 + 1) _ rfl rfl hT2 ?s1 ?s2 ?s3 ?_)
 case s1 => rfl
 case s2 => kernel_rfl
 case s3 => simp [Value.oneCell']
 intro w9 hT9 hg9 hs9
 have HB9 := Lib.hid (hB2.grown hg9 hB2.size (fun j hj => by cases hj; omega))
 have HR9 : Hid (RowI w9 w.heap.size og n n (Im.mirL c r l rows)) := Lib.hid (by
  obtain ⟨cs, h1, h2, h3, h4, h5, h6, h7⟩ := hrow
  have h8 := HRB.out
  have h9 := HLO.out
  exact ⟨cs, (hg9.block _ (Array.getElem?_eq_some_iff.1 h1).1 (by simp; omega)).trans h1, h2, h3, h4, h5, h6, by omega⟩)
 clear hg9 hs9
 go_wp2
 exact bodyPost_ret (results_blk_tmp rfl rfl hT9 _ Tryz.underlying35 rfl (by kernel_rfl)) rfl ⟨og, rfl, HR9.out, HB9.out⟩
theorem c67_ok (c r : Nat) (A : Option Addr) (n cap : Nat) (l : List Int) (w : World) (g : Im.Gr c r l) (hc : c ≤ 16) (hr : r ≤ 16) (H : RdI w A n l) :
  Calls Tryz.prog 67 #[.agg #[.int .i64 c, .int .i64 r, .slice A n cap]] w fun en w' => ∃ og, en = .returned (.tuple #[.agg #[.int .i64 r, .int .i64 c, .slice (some ⟨og, 0, none⟩) n n], .int .i64 0]) ∧ RowI w' w.heap.size og n n (Im.trL c r l) ∧ Below w.heap.size w w' := by
 have hl : n ≤ 1000000 := by have := H.len; have := g.len; have : c * r ≤ 256 := Nat.mul_le_mul hc hr; omega
 obtain ⟨w0, hW⟩ : ∃ W, W = (w.alloc (Obj.cells #[.int .i64 c, .int .i64 r, .slice A n cap] 35)).alloc (Obj.cells #[.int .i64 0, .int .i64 0, .slice none 0 0] 35) := ⟨_, rfl⟩
 have hT0 : w0.heap[w.heap.size]? = some (.cells #[.int .i64 c, .int .i64 r, .slice A n cap] 35 (0, 0)) := by rw [hW]; exact heap_old (by simp <;> omega) (heap_new (by simp))
 have hT1 : w0.heap[w.heap.size + 1]? = some (.cells #[.int .i64 0, .int .i64 0, .slice none 0 0] 35 (0, 0)) := by rw [hW]; exact heap_new (by simp)
 have hB0 : Below w.heap.size w w0 := by rw [hW]; exact (((Below.refl _ _).alloc (by first | omega | (simp <;> omega)) _).alloc (by first | omega | (simp <;> omega)) _)
 replace H := H.below hB0
 go_enter Tryz.func67, Tryz.ntmps67
 go_wp2_with fail
 rw [← hW]
 clear hW
 have qhT0_0 : w0.cell? ⟨w.heap.size, 0, none⟩ = some (.int .i64 c) := cell_at hT0 rfl
 have qhT0_1 : w0.cell? ⟨w.heap.size, 1, none⟩ = some (.int .i64 r) := cell_at hT0 rfl
 have qhT0_2 : w0.cell? ⟨w.heap.size, 2, none⟩ = some (.slice A n cap) := cell_at hT0 rfl
 have qhT1_0 : w0.cell? ⟨w.heap.size + 1, 0, none⟩ = some (.int .i64 0) := cell_at hT1 rfl
 have qhT1_1 : w0.cell? ⟨w.heap.size + 1, 1, none⟩ = some (.int .i64 0) := cell_at hT1 rfl
 have qhT1_2 : w0.cell? ⟨w.heap.size + 1, 2, none⟩ = some (.slice none 0 0) := cell_at hT1 rfl
 go_wp2_with fail
 refine (c64 c r A n cap l _ hl H).mono ?_
 rintro e w1 ⟨rfl, hb⟩
 clear qhT0_0 qhT0_1 qhT0_2 qhT1_0 qhT1_1 qhT1_2
 have hS := hb
 have hB1 := hB0.call hS rfl
 replace hT0 := blkb hT0 hS
 replace hT1 := blkb hT1 hS
 replace H := H.below hS
 clear hS hB0
 have qhT0_0 : w1.cell? ⟨w.heap.size, 0, none⟩ = some (.int .i64 c) := cell_at hT0 rfl
 have qhT0_1 : w1.cell? ⟨w.heap.size, 1, none⟩ = some (.int .i64 r) := cell_at hT0 rfl
 have qhT0_2 : w1.cell? ⟨w.heap.size, 2, none⟩ = some (.slice A n cap) := cell_at hT0 rfl
 have qhT1_0 : w1.cell? ⟨w.heap.size + 1, 0, none⟩ = some (.int .i64 0) := cell_at hT1 rfl
 have qhT1_1 : w1.cell? ⟨w.heap.size + 1, 1, none⟩ = some (.int .i64 0) := cell_at hT1 rfl
 have qhT1_2 : w1.cell? ⟨w.heap.size + 1, 2, none⟩ = some (.slice none 0 0) := cell_at hT1 rfl
 clear hb
 rw [Mo.ground_of g hc hr]
 have HLO := Lib.hid hB1.size
 have HRB := Lib.hid (Array.getElem?_eq_some_iff.1 hT1).1
 go_wp2_with fail
 refine (c129_t c r A n cap l w.heap.size _ g hc hr H hT0).mono ?_
 rintro e w2 ⟨og, rfl, hrow, hb⟩
 clear qhT0_0 qhT0_1 qhT0_2 qhT1_0 qhT1_1 qhT1_2
 have hS := hb
 have hB2 := hB1.call hS rfl
 replace hT0 := blkb hT0 hS
 replace hT1 := blkb hT1 hS
 replace H := H.below hS
 clear hS hB1
 have qhT0_0 : w2.cell? ⟨w.heap.size, 0, none⟩ = some (.int .i64 c) := cell_at hT0 rfl
 have qhT0_1 : w2.cell? ⟨w.heap.size, 1, none⟩ = some (.int .i64 r) := cell_at hT0 rfl
 have qhT0_2 : w2.cell? ⟨w.heap.size, 2, none⟩ = some (.slice A n cap) := cell_at hT0 rfl
 have qhT1_0 : w2.cell? ⟨w.heap.size + 1, 0, none⟩ = some (.int .i64 0) := cell_at hT1 rfl
 have qhT1_1 : w2.cell? ⟨w.heap.size + 1, 1, none⟩ = some (.int .i64 0) := cell_at hT1 rfl
 have qhT1_2 : w2.cell? ⟨w.heap.size + 1, 2, none⟩ = some (.slice none 0 0) := cell_at hT1 rfl
 clear hb
 go_wp2_with (refine wpList_store_blk rfl 35 _ _ rfl (w.heap.size + 1) _ rfl rfl hT1 ?s1 ?s2 ?s3 ?_)
 case s1 => rfl
 case s2 => kernel_rfl
 case s3 => simp [Value.oneCell']
 intro w9 hT9 hg9 hs9
 have HB9 := Lib.hid (hB2.grown hg9 hB2.size (fun j hj => by cases hj; omega))
 have HR9 : Hid (RowI w9 w.heap.size og n n (Im.trL c r l)) := Lib.hid (by
  obtain ⟨cs, h1, h2, h3, h4, h5, h6, h7⟩ := hrow
  have h8 := HRB.out
  have h9 := HLO.out
  exact ⟨cs, (hg9.block _ (Array.getElem?_eq_some_iff.1 h1).1 (by simp; omega)).trans h1, h2, h3, h4, h5, h6, by omega⟩)
 clear hg9 hs9
 go_wp2
 exact bodyPost_ret (results_blk_tmp rfl rfl hT9 _ Tryz.underlying35 rfl (by kernel_rfl)) rfl ⟨og, rfl, HR9.out, HB9.out⟩
end Go.Proofs.YtdimmlljjmmdbaaGreatDoor
namespace Go.Proofs.YtdimmlljjmmdbaaGreatDoor
open Go.RowKit Go.Shelf
set_option maxHeartbeats 8000000
set_option maxRecDepth 100000
/-- the cell that lies mirrored -/
theorem c79 (c r : Nat) (A : Option Addr) (n cap : Nat) (i gb : Nat) (w : World) (hc1 : 1 ≤ c) (hc : c ≤ 16) (hi : i < 300) (hg : w.heap[gb]? = some (.cells #[.int .i64 c, .int .i64 r, .slice A n cap] 24 (0, 0))) :
  Calls Tryz.prog 79 #[.int .i64 i, .pointer (some ⟨gb, 0, none⟩)] w fun en w' => en = .returned (.int .i64 (Im.mir c i : Nat)) ∧ Below w.heap.size w w' := by
 have q0 : w.cell? ⟨gb, 0, none⟩ = some (.int .i64 c) := cell_at hg rfl
 have z0 := cell_lt q0
 have hc0 : ((c : Int) == 0) = false := by simp; omega
 have hcz : ¬ c = 0 := by omega
 have hm1 : (i : Int).tmod (c : Int) = ((i % c : Nat) : Int) := Int.ofNat_tmod _ _
 have hq1 : (i : Int).tdiv (c : Int) = ((i / c : Nat) : Int) := Int.ofNat_tdiv _ _
 have hmb : i % c < c := Nat.mod_lt _ (by omega)
 have hpi : i / c * c ≤ i := Nat.div_mul_le_self i c
 have hdb : i / c ≤ i := Nat.div_le_self i c
 obtain ⟨p, hp⟩ : ∃ p, p = i / c * c := ⟨_, rfl⟩
 have HV0 : Im.mir c i = p + c - 1 - i % c := by rw [hp]; rfl
 rw [← hp] at hpi
 have hpc : ((i / c : Nat) : Int) * (c : Int) = (p : Int) := by rw [hp]; simp
 generalize i % c = m at hm1 hmb HV0
 generalize i / c = q at hq1 hdb hp hpc
 obtain ⟨u1, hu1⟩ : ∃ u, u = p + c := ⟨_, rfl⟩
 obtain ⟨u2, hu2⟩ : ∃ u, u = p + c - 1 := ⟨_, rfl⟩
 obtain ⟨u3, hu3⟩ : ∃ u, u = p + c - 1 - m := ⟨_, rfl⟩
 have e0 : IntKind.i64.wrap (q : Int) = (q : Int) := wrapI (by omega)
 have e1 : IntKind.i64.wrap ((q : Int) * (c : Int)) = (p : Int) := by rw [hpc]; exact wrapI (by omega)
 have e2 : IntKind.i64.wrap ((p : Int) + (c : Int)) = (u1 : Int) := by rw [wrapI (by omega)]; omega
 have e3 : IntKind.i64.wrap ((u1 : Int) - 1) = (u2 : Int) := by rw [wrapI (by omega)]; omega
 have e4 : IntKind.i64.wrap ((u2 : Int) - (m : Int)) = (u3 : Int) := by rw [wrapI (by omega)]; omega
 have HV : Hid (Im.mir c i = u3) := Lib.hid (by rw [HV0, hu3])
 rw [HV.out]
 clear HV hu1 hu2 hu3 hp hpc hmb hpi hdb HV0 hg
 go_enter Tryz.func79, Tryz.ntmps79
 go_wp2_with fail
 refine wp_region_growG (by kernel_rfl) (by kernel_rfl) ?_
 repeat (go_big_quiet_step ((first | fail)))
 refine wpQuiet_nil (gw_out ?_)
 intro w3 hb3
 have HB := Lib.hid hb3
 clear hb3
 go_wp2
 go_ret
 exact ⟨rfl, HB.out⟩
/-- the cell that lies across -/
theorem c80 (c r : Nat) (A : Option Addr) (n cap : Nat) (i gb : Nat) (w : World) (hc1 : 1 ≤ c) (hr : r ≤ 16) (hc : c ≤ 16) (hi : i < 300) (hg : w.heap[gb]? = some (.cells #[.int .i64 c, .int .i64 r, .slice A n cap] 24 (0, 0))) :
  Calls Tryz.prog 80 #[.int .i64 i, .pointer (some ⟨gb, 0, none⟩)] w fun en w' => en = .returned (.int .i64 (Im.acr c r i : Nat)) ∧ Below w.heap.size w w' := by
 have q0 : w.cell? ⟨gb, 0, none⟩ = some (.int .i64 c) := cell_at hg rfl
 have q1 : w.cell? ⟨gb, 1, none⟩ = some (.int .i64 r) := cell_at hg rfl
 have z0 := cell_lt q0
 have hc0 : ((c : Int) == 0) = false := by simp; omega
 have hcz : ¬ c = 0 := by omega
 have hm1 : (i : Int).tmod (c : Int) = ((i % c : Nat) : Int) := Int.ofNat_tmod _ _
 have hq1 : (i : Int).tdiv (c : Int) = ((i / c : Nat) : Int) := Int.ofNat_tdiv _ _
 have hmb : i % c < c := Nat.mod_lt _ (by omega)
 have hdb : i / c ≤ i := Nat.div_le_self i c
 obtain ⟨p, hp⟩ : ∃ p, p = i % c * r := ⟨_, rfl⟩
 have hpb : p ≤ 16 * 16 := by rw [hp]; exact Nat.mul_le_mul (by omega) hr
 have HV0 : Im.acr c r i = p + i / c := by rw [hp]; rfl
 have hpc : ((i % c : Nat) : Int) * (r : Int) = (p : Int) := by rw [hp]; simp
 generalize i % c = m at hm1 hmb hp hpc
 generalize i / c = q at hq1 hdb HV0
 obtain ⟨u1, hu1⟩ : ∃ u, u = p + q := ⟨_, rfl⟩
 have e0 : IntKind.i64.wrap (q : Int) = (q : Int) := wrapI (by omega)
 have e1 : IntKind.i64.wrap ((m : Int) * (r : Int)) = (p : Int) := by rw [hpc]; exact wrapI (by omega)
 have e2 : IntKind.i64.wrap ((p : Int) + (q : Int)) = (u1 : Int) := by rw [wrapI (by omega)]; omega
 have HV : Hid (Im.acr c r i = u1) := Lib.hid (by rw [HV0, hu1])
 rw [HV.out]
 clear HV hu1 hp hpc hmb hdb hpb HV0 hg
 go_enter Tryz.func80, Tryz.ntmps80
 go_wp2_with fail
 refine wp_region_growG (by kernel_rfl) (by kernel_rfl) ?_
 repeat (go_big_quiet_step ((first | fail)))
 refine wpQuiet_nil (gw_out ?_)
 intro w3 hb3
 have HB := Lib.hid hb3
 clear hb3
 go_wp2
 go_ret
 exact ⟨rfl, HB.out⟩
end Go.Proofs.YtdimmlljjmmdbaaGreatDoor
namespace Go.Proofs.YtdimmlljjmmdbaaGreatDoor
open Go.RowKit Go.Shelf
set_option maxHeartbeats 8000000
set_option maxRecDepth 100000
/- plain facts for the law Rays -/
theorem pth_walk {c : Nat} {l : List Int} {n : Nat} (hn : l.length = n) : ∀ (w : List Nat) (a : Nat) (S : Int), a < n → Im.Walk c l a w → pth c l n (some (a : Int)) S (w.map (fun x : Nat => (x : Int))) = (S + Im.costs c l a w, 0)
 | [], a, S, _, _ => by simp [pth_nil, Im.costs]
 | b :: w, a, S, ha, ⟨h1, h2, h3⟩ => by
  have hb : b < n := by omega
  have hcb : Mo.cell n (b : Int) = 0 := Mo.cell_ok.2 (by omega)
  rw [List.map_cons, pth_some hcb]
  have e1 : ((a : Int)).toNat = a := Int.toNat_natCast a
  have e2 : ((b : Int)).toNat = b := Int.toNat_natCast b
  rw [e1, e2, if_pos h2, pth_walk hn w b _ hb h3]
  simp only [Im.costs]
  rw [Int.add_assoc]
theorem pth_start {c : Nat} {l : List Int} {n : Nat} (hn : l.length = n) (w : List Nat) (a : Nat) (ha : a < n) (h : Im.Walk c l a w) : pth c l n none 0 ((a :: w).map (fun x : Nat => (x : Int))) = (Im.costs c l a w, 0) := by
 rw [List.map_cons, pth_none (Mo.cell_ok.2 (by omega)), pth_walk hn w a 0 ha h]
 simp
/-- a way that is fine is a walk, with its costs -/
theorem pth_back {c : Nat} {l : List Int} {n : Nat} (hn : l.length = n) : ∀ (u : List Int) (a : Nat) (S V : Int), a < n → pth c l n (some (a : Int)) S u = (V, 0) → ∃ w : List Nat, u = w.map (fun x : Nat => (x : Int)) ∧ Im.Walk c l a w ∧ V = S + Im.costs c l a w
 | [], a, S, V, _, h => by
  rw [pth_nil] at h
  exact ⟨[], rfl, trivial, by simp [Im.costs]; exact (congrArg Prod.fst h).symm⟩
 | x :: u, a, S, V, ha, h => by
  by_cases hx : Mo.cell n x = 0
  ·have hxr := Mo.cell_ok.1 hx
   obtain ⟨b, rfl⟩ : ∃ b : Nat, x = b := ⟨x.toNat, by omega⟩
   rw [pth_some hx] at h
   have e1 : ((a : Int)).toNat = a := Int.toNat_natCast a
   have e2 : ((b : Int)).toNat = b := Int.toNat_natCast b
   rw [e1, e2] at h
   by_cases hc : 0 < Im.cost c l a b
   ·rw [if_pos hc] at h
    obtain ⟨w, h1, h2, h3⟩ := pth_back hn u b _ V (by omega) h
    exact ⟨b :: w, by rw [h1]; rfl, ⟨by omega, hc, h2⟩, by rw [h3]; simp only [Im.costs]; omega⟩
   ·rw [if_neg hc] at h
    exact absurd (congrArg Prod.snd h) (by simp)
  ·rw [pth_bad hx] at h
   exact absurd (congrArg Prod.snd h) hx
theorem pth_back0 {c : Nat} {l : List Int} {n : Nat} (hn : l.length = n) {u : List Int} {V : Int} (hu : u ≠ []) (h : pth c l n none 0 u = (V, 0)) : ∃ (a : Nat) (w : List Nat), u = (a :: w).map (fun x : Nat => (x : Int)) ∧ a < n ∧ Im.Walk c l a w ∧ V = Im.costs c l a w := by
 match u, hu, h with
 | x :: u, _, h =>
  by_cases hx : Mo.cell n x = 0
  ·have hxr := Mo.cell_ok.1 hx
   obtain ⟨b, rfl⟩ : ∃ b : Nat, x = b := ⟨x.toNat, by omega⟩
   rw [pth_none hx] at h
   obtain ⟨w, h1, h2, h3⟩ := pth_back hn u b _ V (by omega) h
   exact ⟨b, w, by rw [h1]; rfl, by omega, h2, by omega⟩
  ·rw [pth_bad hx] at h
   exact absurd (congrArg Prod.snd h) hx
/-- times as potentials -/
theorem pot_times {c r : Nat} {l t : List Int} {s d n : Nat} (g : Im.Gr c r l) (hc : c ≤ 16) (hr : r ≤ 16) (hn : l.length = n) (hs : s < n) (h : Im.IsT c l s t) : potE c l t = 0 ∧ potV c l t s d = Im.at0 t d := by
 have hb : Mo.allw t (-999999999) 999999999 = 0 := Mo.allw_ok.2 (fun x hx => by
  obtain ⟨k, hk, e⟩ := List.getElem_of_mem hx
  have hk2 : k < l.length := by rw [← h.len]; exact hk
  have h1 := time_le g hc hr (by rw [hn]; exact hs) h hk2
  have e2 : Im.at0 t k = x := by simp [Im.at0, List.getD_eq_getElem?_getD, hk, e]
  omega)
 have hE : potE c l t = 0 := potE_c (first2 ((Mo.when_zero (by decide)).2 (by rw [h.len]; simp)) hb) h.feas
 refine ⟨hE, ?_⟩
 unfold potV
 rw [if_pos hE, h.src]
 omega
/-- times with one changed are no times -/
theorem tm_wrong {c : Nat} {l t : List Int} {s i : Nat} {by' : Int} (h : Im.IsT c l s t) (hi : i < l.length) (hb : by' ≠ 0) : tmE c l (t.set i (Im.at0 t i + by')) s = 19 := by
 unfold tmE
 rw [if_neg (by simp [h.len]), if_neg]
 intro e
 rw [Im.times_eq h] at e
 have h1 := congrArg (fun x => Im.at0 x i) e
 simp only [Im.at0_set _ _ _ _ (show i < t.length by rw [h.len]; exact hi), if_true] at h1
 omega
theorem tm_right {c : Nat} {l t : List Int} {s : Nat} (h : Im.IsT c l s t) : tmE c l t s = 0 := by
 unfold tmE
 rw [if_neg (by simp [h.len]), if_pos (Im.times_eq h).symm]
/-- a way that is given takes no less than the time between its ends -/
theorem given_ge {c : Nat} {l b : List Int} {a : Nat} {w : List Nat} {z : Nat} (h : Im.IsT c l a b) (ha : a < l.length) (hw : Im.Walk c l a w) (hz : (a :: w).getLast? = some z) : Im.at0 b z ≤ Im.costs c l a w := by
 obtain ⟨z', h1, _, h3⟩ := Im.costs_ge h.feas w a ha hw
 rw [hz] at h1
 cases h1
 rw [h.src] at h3
 omega
end Go.Proofs.YtdimmlljjmmdbaaGreatDoor
namespace Go.Proofs.YtdimmlljjmmdbaaGreatDoor
open Go.RowKit Go.Shelf
set_option maxHeartbeats 8000000
set_option maxRecDepth 100000
/-- the first times: whatever they are -/
theorem k58x {c r n s : Nat} {l : List Int} (hc : c ≤ 16) (hr : r ≤ 16) (g : Im.Gr c r l) (hn : l.length = n) (hs : s < n) (B : Option Addr) (cb : Nat) (W : World) (h1 : RdI W B n l) (h2 : Steps W) :
  Calls Tryz.prog 58 #[.agg #[.int .i64 c, .int .i64 r, .slice B n cb], .int .i64 s] W fun en w' => ∃ F fc t, en = .returned (.tuple #[.slice F n fc, .int .i64 0]) ∧ RdI w' F n t ∧ Im.IsT c l s t ∧ Below W.heap.size W w' := by
 refine (c58_ok c r B n cb l s W g hc hr h1 h2 hs).mono ?_
 rintro en w' ⟨og, t', e1, _, ho, hT, hb⟩
 exact ⟨_, _, t', e1, RdI.of_cells (hT.len.trans hn) ho, hT, hb⟩
/-- all that the law asks for beyond the first two lists of times -/
theorem rays_calls (c r n s d m : Nat) (l t o u : List Int) (hc : c ≤ 16) (hr : r ≤ 16) (g : Im.Gr c r l) (hn : l.length = n) (hn30 : n ≤ 30) (hs : s < n) (hd : d < n) (ht : Im.IsT c l s t) (ho : Im.IsT c l d o) (hul : u.length = m) (hm : m ≤ 1000000) :
  ∃ (N V E : Int) (wy ml tl : List Int) (k : Nat),
   Im.at0 t d = N ∧ Im.at0 t s = 0 ∧ Im.at0 o s = N ∧ 1 ≤ k ∧ k ≤ n ∧ Im.at0 wy 0 = s ∧ Im.at0 wy (k - 1) = d ∧ wy.length = k ∧
   (∀ i, i < n → 0 ≤ Im.at0 t i ∧ Im.at0 t i ≤ N + Im.at0 o i ∧ N ≤ Im.at0 t i + Im.at0 o i ∧ Im.at0 t i ≤ 20000 ∧ 0 ≤ Im.at0 o i ∧ Im.at0 o i ≤ 20000) ∧
   (∀ (B : Option Addr) (cb : Nat) (W : World), RdI W B n l → Steps W → Calls Tryz.prog 59 #[.agg #[.int .i64 c, .int .i64 r, .slice B n cb], .int .i64 s, .int .i64 d] W fun en w' => ∃ F fc, en = .returned (.tuple #[.slice F k fc, .int .i64 N, .int .i64 0]) ∧ RdI w' F k wy ∧ Below W.heap.size W w') ∧
   (∀ (B C : Option Addr) (cb cc : Nat) (W : World), RdI W B n l → RdI W C n t → Steps W → Calls Tryz.prog 75 #[.agg #[.int .i64 c, .int .i64 r, .slice B n cb], .int .i64 s, .slice C n cc] W fun en w' => en = .returned (.int .i64 0) ∧ Below W.heap.size W w') ∧
   (∀ i, i < n → ∀ by' : Int, by' ≠ 0 → ∀ (B C : Option Addr) (cb cc : Nat) (W : World), RdI W B n l → RdI W C n (t.set i (Im.at0 t i + by')) → Steps W → Calls Tryz.prog 75 #[.agg #[.int .i64 c, .int .i64 r, .slice B n cb], .int .i64 s, .slice C n cc] W fun en w' => en = .returned (.int .i64 19) ∧ Below W.heap.size W w') ∧
   (∀ (B C : Option Addr) (cb cc : Nat) (W : World), RdI W B n l → RdI W C k wy → Steps W → Calls Tryz.prog 73 #[.agg #[.int .i64 c, .int .i64 r, .slice B n cb], .slice C k cc] W fun en w' => en = .returned (.tuple #[.int .i64 N, .int .i64 0]) ∧ Below W.heap.size W w') ∧
   (∀ (B C : Option Addr) (cb cc : Nat) (W : World), RdI W B n l → RdI W C n t → Steps W → Calls Tryz.prog 74 #[.agg #[.int .i64 c, .int .i64 r, .slice B n cb], .int .i64 s, .int .i64 d, .slice C n cc] W fun en w' => en = .returned (.tuple #[.int .i64 N, .int .i64 0]) ∧ Below W.heap.size W w') ∧
   (∀ (B C : Option Addr) (cb cc : Nat) (W : World), RdI W B n l → RdI W C m u → Steps W → Calls Tryz.prog 73 #[.agg #[.int .i64 c, .int .i64 r, .slice B n cb], .slice C m cc] W fun en w' => en = .returned (.tuple #[.int .i64 V, .int .i64 E]) ∧ Below W.heap.size W w') ∧
   (E = 0 → 1 ≤ m ∧ ∃ a z : Nat, a < n ∧ z < n ∧ Im.at0 u 0 = a ∧ Im.at0 u (m - 1) = z ∧
    ∀ (B : Option Addr) (cb : Nat) (W : World), RdI W B n l → Steps W → Calls Tryz.prog 58 #[.agg #[.int .i64 c, .int .i64 r, .slice B n cb], .int .i64 a] W fun en w' => ∃ F fc b, en = .returned (.tuple #[.slice F n fc, .int .i64 0]) ∧ RdI w' F n b ∧ Im.at0 b z ≤ V ∧ Below W.heap.size W w') ∧
   (∀ (B : Option Addr) (cb : Nat) (W : World), RdI W B n l → Calls Tryz.prog 66 #[.agg #[.int .i64 c, .int .i64 r, .slice B n cb], .bool false] W fun en w' => ∃ F fc, en = .returned (.tuple #[.agg #[.int .i64 c, .int .i64 r, .slice F n fc], .int .i64 0]) ∧ RdI w' F n ml ∧ Below W.heap.size W w') ∧
   (∀ (B : Option Addr) (cb : Nat) (W : World), RdI W B n l → Calls Tryz.prog 67 #[.agg #[.int .i64 c, .int .i64 r, .slice B n cb]] W fun en w' => ∃ F fc, en = .returned (.tuple #[.agg #[.int .i64 r, .int .i64 c, .slice F n fc], .int .i64 0]) ∧ RdI w' F n tl ∧ Below W.heap.size W w') ∧
   (∀ (B : Option Addr) (cb : Nat) (W : World), RdI W B n ml → Calls Tryz.prog 65 #[.agg #[.int .i64 c, .int .i64 r, .slice B n cb]] W fun en w' => en = .returned (.int .i64 0) ∧ Below W.heap.size W w') ∧
   (∀ (B : Option Addr) (cb : Nat) (W : World), RdI W B n tl → Calls Tryz.prog 65 #[.agg #[.int .i64 r, .int .i64 c, .slice B n cb]] W fun en w' => en = .returned (.int .i64 0) ∧ Below W.heap.size W w') ∧
   (∀ (B : Option Addr) (cb : Nat) (W : World), RdI W B n ml → Steps W → Calls Tryz.prog 58 #[.agg #[.int .i64 c, .int .i64 r, .slice B n cb], .int .i64 (Im.mir c s : Nat)] W fun en w' => ∃ F fc v, en = .returned (.tuple #[.slice F n fc, .int .i64 0]) ∧ RdI w' F n v ∧ (∀ i, i < n → Im.mir c i < n ∧ Im.at0 v (Im.mir c i) = Im.at0 t i) ∧ Below W.heap.size W w') ∧
   (∀ (B : Option Addr) (cb : Nat) (W : World), RdI W B n tl → Steps W → Calls Tryz.prog 58 #[.agg #[.int .i64 r, .int .i64 c, .slice B n cb], .int .i64 (Im.acr c r s : Nat)] W fun en w' => ∃ F fc v, en = .returned (.tuple #[.slice F n fc, .int .i64 0]) ∧ RdI w' F n v ∧ (∀ i, i < n → Im.acr c r i < n ∧ Im.at0 v (Im.acr c r i) = Im.at0 t i) ∧ Below W.heap.size W w') := by
 have hs' : s < l.length := by omega
 have hd' : d < l.length := by omega
 have hlr := g.len
 have hl : n ≤ 1000000 := by omega
 obtain ⟨w, w1, w2, w3, w4, w5⟩ := Im.way_facts ho _ s hs' (Nat.le_refl _)
 have hsym := ht.sym ho hs' hd'
 have hwl := Im.way_len ho hs'
 have hpt := pot_times (d := d) g hc hr hn hs ht
 have hk1 : 1 ≤ (Im.way c l o d s).length := by rw [w1]; simp
 have hP : ∃ V E : Int, (∀ (B C : Option Addr) (cb cc : Nat) (W : World), RdI W B n l → RdI W C m u → Steps W → Calls Tryz.prog 73 #[.agg #[.int .i64 c, .int .i64 r, .slice B n cb], .slice C m cc] W fun en w' => en = .returned (.tuple #[.int .i64 V, .int .i64 E]) ∧ Below W.heap.size W w') ∧
   (E = 0 → u ≠ [] ∧ pth c l n none 0 u = (V, 0)) := by
  by_cases hE : Mo.first [Mo.ground c r l, Mo.when ((m : Int) == 0) 12, Mo.when (decide ((256 : Int) < (m : Int))) 5] = 0
  ·have h1 := (Mo.when_zero (by decide)).1 (Mo.first_zero hE (Mo.when ((m : Int) == 0) 12) (by simp))
   have h2 := (Mo.when_zero (by decide)).1 (Mo.first_zero hE (Mo.when (decide ((256 : Int) < (m : Int))) 5) (by simp))
   have hm0 : 0 < m := by simp at h1; omega
   have hm2 : m ≤ 256 := by simp at h2; omega
   exact ⟨_, _, fun B C cb cc W h h' hs => c73_ok c r B n cb l C m cc u W g hc hr hm0 hm2 h h' hs, fun h => ⟨by intro e; rw [e] at hul; simp at hul; omega, Prod.ext rfl h⟩⟩
  ·exact ⟨_, _, fun B C cb cc W h h' hs => c73_bad c r B n cb l C m cc u W hl h hE, fun h => absurd h hE⟩
 obtain ⟨V, E, hV, hVE⟩ := hP
 refine ⟨Im.at0 o s, V, E, (Im.way c l o d s).map (fun x : Nat => (x : Int)), Im.mirL c r l false, Im.trL c r l, (Im.way c l o d s).length, hsym.symm, ht.src, rfl, hk1, by omega, ?_, ?_, by simp, ?_, ?_, ?_, ?_, ?_, ?_, hV, ?_, ?_, ?_, ?_, ?_, ?_, ?_⟩
 ·rw [w1]; rfl
 ·have h := w4
  rw [← w1, List.getLast?_eq_getElem?] at h
  simp [Im.at0, List.getD_eq_getElem?_getD, h]
 ·intro i hi
  have hi' : i < l.length := by omega
  have h1 := time_le g hc hr hs' ht hi'
  have h2 := time_le g hc hr hd' ho hi'
  have h3 := ht.tri ho hs' hd' hi'
  omega
 ·intro B cb W h1 h2
  refine (c59_ok c r B n cb l s d W g hc hr h1 h2 hs hd).mono ?_
  rintro en w' ⟨g', cw, left, e1, hT, hrd, hb⟩
  obtain rfl := hT.unique ho
  exact ⟨_, _, e1, hrd, hb⟩
 ·intro B C cb cc W h1 h2 h3
  have h := c75_ok c r B n cb l s C n cc t W g hc hr h1 hs hl h2 h3
  rw [tm_right ht] at h
  exact h
 ·intro i hi by' hby B C cb cc W h1 h2 h3
  have h := c75_ok c r B n cb l s C n cc _ W g hc hr h1 hs hl h2 h3
  rw [tm_wrong ht (by omega) hby] at h
  exact h
 ·intro B C cb cc W h1 h2 h3
  have h := c73_ok c r B n cb l C _ cc _ W g hc hr hk1 (by omega) h1 h2 h3
  have e : pth c l n none 0 ((Im.way c l o d s).map (fun x : Nat => (x : Int))) = (Im.at0 o s, 0) := by
   rw [w1, pth_start hn w s hs w2, w3]
  rw [e] at h
  exact h
 ·intro B C cb cc W h1 h2 h3
  have h := c74_ok c r B n cb l s d C n cc t W g hc hr h1 h3 hs hd hl h2
  rw [hpt.1, hpt.2, ← hsym] at h
  exact h
 ·intro hE
  obtain ⟨hne, hp⟩ := hVE hE
  obtain ⟨a, q, h1, h2, h3, h4⟩ := pth_back0 hn hne hp
  have hml : m = q.length + 1 := by rw [← hul, h1]; simp
  obtain ⟨z, hz⟩ : ∃ z, (a :: q).getLast? = some z := ⟨_, List.getLast?_eq_some_getLast (by simp)⟩
  have hzl : z < n := by
   have := Im.walk_lt q a (by omega) h3 z (List.mem_of_getLast? hz)
   omega
  refine ⟨by omega, a, z, h2, hzl, by rw [h1]; rfl, ?_, ?_⟩
  ·have h := hz
   rw [List.getLast?_eq_getElem?] at h
   rw [h1]
   have e : m - 1 = (a :: q).length - 1 := by simp; omega
   rw [e]
   simp only [Im.at0, List.getD_eq_getElem?_getD, List.getElem?_map, h]
   rfl
  ·intro B cb W k1 k2
   refine (k58x hc hr g hn h2 B cb W k1 k2).mono ?_
   rintro en w' ⟨F, fc, b, e1, e2, e3, e4⟩
   exact ⟨F, fc, b, e1, e2, by rw [h4]; exact given_ge e3 (by omega) h3 hz, e4⟩
 ·intro B cb W h1
  refine (c66_ok c r B n cb l false W g hc hr h1).mono ?_
  rintro en w' ⟨og, e1, hrow, hb⟩
  exact ⟨_, _, e1, hrow.rd, hb⟩
 ·intro B cb W h1
  refine (c67_ok c r B n cb l W g hc hr h1).mono ?_
  rintro en w' ⟨og, e1, hrow, hb⟩
  exact ⟨_, _, e1, hrow.rd, hb⟩
 ·intro B cb W h1
  have h := c65 c r B n cb _ W hl h1
  rw [Mo.ground_of (Im.mirL_gr g) hc hr] at h
  exact h
 ·intro B cb W h1
  have h := c65 r c B n cb _ W hl h1
  rw [Mo.ground_of (Im.trL_gr g) hr hc] at h
  exact h
 ·intro B cb W h1 h2
  have hms := Im.mir_facts g.c1 (show s < c * r by omega)
  refine (k58x hc hr (Im.mirL_gr g) (by rw [Im.mirL_len]; omega) (s := Im.mir c s) (by omega) B cb W h1 h2).mono ?_
  rintro en w' ⟨F, fc, v, e1, e2, e3, e4⟩
  exact ⟨F, fc, v, e1, e2, fun i hi => ⟨by have := (Im.mir_facts g.c1 (show i < c * r by omega)).1; omega, Im.mir_times g hs' ht e3 i (by omega)⟩, e4⟩
 ·intro B cb W h1 h2
  have hms := Im.acr_facts g.c1 (show s < c * r by omega)
  have hrc : r * c = n := by rw [Nat.mul_comm]; omega
  refine (k58x hr hc (Im.trL_gr g) (by rw [Im.trL_len]; omega) (s := Im.acr c r s) (by omega) B cb W h1 h2).mono ?_
  rintro en w' ⟨F, fc, v, e1, e2, e3, e4⟩
  exact ⟨F, fc, v, e1, e2, fun i hi => ⟨by have := (Im.acr_facts g.c1 (show i < c * r by omega)).1; omega, Im.acr_times g hs' ht e3 i (by omega)⟩, e4⟩
end Go.Proofs.YtdimmlljjmmdbaaGreatDoor
