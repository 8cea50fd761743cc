/- A part of the proofs about chapter 7 (image): contracts of functions and plain laws (PIso, V57, V70, V71, V72). -/
import Derived.Test.YtdimmlljjmmdbaaGreatDoorA01
import Derived.Test.YtdimmlljjmmdbaaGreatDoorA11
import Derived.Test.YtdimmlljjmmdbaaGreatDoorA10
import Derived.Test.YtdimmlljjmmdbaaGreatDoorA05
set_option linter.all false
/- Plain laws of chapter 07: mirrored and transposed grounds have the times of the cells where they go. -/
namespace Im
/-- cells of a ground renamed: the times go along -/
theorem IsT.iso {c c' : Nat} {l l' : List Int} {s : Nat} {t u : List Int} {f g : Nat → Nat} (hl : l'.length = l.length) (hf : ∀ a, a < l.length → f a < l.length ∧ g (f a) = a) (hg : ∀ a, a < l.length → g a < l.length ∧ f (g a) = a)
    (hc : ∀ a b, a < l.length → b < l.length → cost c' l' (f a) (f b) = cost c l a b) (hs : s < l.length) (h : IsT c l s t) (h' : IsT c' l' (f s) u) : ∀ i, i < l.length → at0 u (f i) = at0 t i := by
  have hat : ∀ i, i < l.length → at0 ((List.range l.length).map fun j => at0 t (g j)) i = at0 t (g i) := fun i hi => by
    simp [at0, List.getD_eq_getElem?_getD, hi]
  have hI : IsT c' l' (f s) ((List.range l.length).map fun j => at0 t (g j)) := by
    refine ⟨by simp [hl], ?_, ?_, ?_, ?_⟩
    · rw [hat _ (hf s hs).1, (hf s hs).2, h.src]
    · intro b hb
      rw [hl] at hb
      rw [hat b hb]
      exact h.nn _ (hg b hb).1
    · intro a b ha hb hp
      rw [hl] at ha hb
      rw [hat a ha, hat b hb]
      have e : cost c' l' a b = cost c l (g a) (g b) := by
        rw [← hc _ _ (hg a ha).1 (hg b hb).1, (hg a ha).2, (hg b hb).2]
      rw [e] at hp ⊢
      exact h.feas _ _ (hg a ha).1 (hg b hb).1 hp
    · intro b hb hne
      rw [hl] at hb
      have hne2 : g b ≠ s := fun e => hne (by rw [← e, (hg b hb).2])
      obtain ⟨a, ha, h1, h2⟩ := h.tight _ (hg b hb).1 hne2
      refine ⟨f a, by rw [hl]; exact (hf a ha).1, ?_, ?_⟩
      · rw [← (hg b hb).2, hc a _ ha (hg b hb).1]; exact h1
      · rw [hat b hb, hat _ (hf a ha).1, (hf a ha).2, h2]
        congr 1
        rw [← hc a _ ha (hg b hb).1, (hg b hb).2]
  have hu := hI.unique h'
  intro i hi
  rw [← hu, hat _ (hf i hi).1, (hf i hi).2]
/-- the cell in the mirror -/
def mir (c a : Nat) : Nat := a / c * c + c - 1 - a % c
def acr (c r a : Nat) : Nat := a % c * r + a / c
theorem mir_facts {c r a : Nat} (hc : 1 ≤ c) (ha : a < c * r) : mir c a < c * r ∧ mir c a % c = c - 1 - a % c ∧ mir c a / c = a / c := by
  have h1 : a % c < c := Nat.mod_lt _ hc
  have h2 : a / c < r := Nat.div_lt_of_lt_mul ha
  have h3 := cell_mk (c := c) (r := r) (x := c - 1 - a % c) (y := a / c) (by omega) h2
  have e : mir c a = a / c * c + (c - 1 - a % c) := by unfold mir; omega
  rw [e]; exact h3
theorem mir_mir {c r a : Nat} (hc : 1 ≤ c) (ha : a < c * r) : mir c (mir c a) = a := by
  have h1 : a % c < c := Nat.mod_lt _ hc
  obtain ⟨h2, h3, h4⟩ := mir_facts hc ha
  obtain ⟨h5, h6, h7⟩ := mir_facts hc h2
  exact cell_eq (c := c) (by rw [h6, h3]; omega) (by rw [h7, h4])
theorem acr_facts {c r a : Nat} (hc : 1 ≤ c) (ha : a < c * r) : acr c r a < r * c ∧ acr c r a % r = a / c ∧ acr c r a / r = a % c := by
  have h1 : a % c < c := Nat.mod_lt _ hc
  have h2 : a / c < r := Nat.div_lt_of_lt_mul ha
  exact cell_mk (c := r) (r := c) (x := a / c) (y := a % c) h2 h1
theorem acr_acr {c r a : Nat} (hc : 1 ≤ c) (hr : 1 ≤ r) (ha : a < c * r) : acr r c (acr c r a) = a := by
  obtain ⟨h2, h3, h4⟩ := acr_facts hc ha
  obtain ⟨h5, h6, h7⟩ := acr_facts hr h2
  exact cell_eq (c := c) (by rw [h6, h4]) (by rw [h7, h3])
theorem mir_cost {c r : Nat} {l l' : List Int} (g : Gr c r l) (h : ∀ a, a < l.length → at0 l' (mir c a) = at0 l a) (a b : Nat) (ha : a < l.length) (hb : b < l.length) : cost c l' (mir c a) (mir c b) = cost c l a b := by
  have ha' := ha; have hb' := hb
  rw [g.len] at ha' hb'
  obtain ⟨_, a1, a2⟩ := mir_facts g.c1 ha'
  obtain ⟨_, b1, b2⟩ := mir_facts g.c1 hb'
  have m1 : a % c < c := Nat.mod_lt _ g.c1
  have m2 : b % c < c := Nat.mod_lt _ g.c1
  have e : mir c a = mir c b ↔ a = b := ⟨fun e => by rw [← mir_mir g.c1 ha', ← mir_mir g.c1 hb', e], fun e => by rw [e]⟩
  have e2 : ap (c - 1 - a % c) (c - 1 - b % c) = ap (a % c) (b % c) := by unfold ap; omega
  unfold cost
  rw [a1, a2, b1, b2, h a ha, h b hb, e2]
  simp only [e]
theorem acr_cost {c r : Nat} {l l' : List Int} (g : Gr c r l) (h : ∀ a, a < l.length → at0 l' (acr c r a) = at0 l a) (a b : Nat) (ha : a < l.length) (hb : b < l.length) : cost r l' (acr c r a) (acr c r b) = cost c l a b := by
  have ha' := ha; have hb' := hb
  rw [g.len] at ha' hb'
  obtain ⟨_, a1, a2⟩ := acr_facts g.c1 ha'
  obtain ⟨_, b1, b2⟩ := acr_facts g.c1 hb'
  have e : acr c r a = acr c r b ↔ a = b := ⟨fun e => by rw [← acr_acr g.c1 g.r1 ha', ← acr_acr g.c1 g.r1 hb', e], fun e => by rw [e]⟩
  unfold cost
  rw [a1, a2, b1, b2, h a ha, h b hb]
  have e2 : (acr c r a = acr c r b ∨ 1 < ap (a / c) (b / c) ∨ 1 < ap (a % c) (b % c)) ↔ (a = b ∨ 1 < ap (a % c) (b % c) ∨ 1 < ap (a / c) (b / c)) := by rw [e, or_comm (a := 1 < ap (a / c) (b / c))]
  have e3 : (ap (a / c) (b / c) = 1 ∧ ap (a % c) (b % c) = 1) ↔ (ap (a % c) (b % c) = 1 ∧ ap (a / c) (b / c) = 1) := And.comm
  simp only [e2, e3]
/-- the mirrored and the transposed ground's slownesses -/
def mirL (c r : Nat) (l : List Int) (rows : Bool) : List Int := (List.range (c * r)).map fun i => at0 l (if rows then (r - 1 - i / c) * c + i % c else i / c * c + c - 1 - i % c)
def trL (c r : Nat) (l : List Int) : List Int := (List.range (c * r)).map fun i => at0 l (i % r * c + i / r)
theorem mirL_len (c r : Nat) (l : List Int) (rows : Bool) : (mirL c r l rows).length = c * r := by simp [mirL]
theorem trL_len (c r : Nat) (l : List Int) : (trL c r l).length = c * r := by simp [trL]
theorem mirL_at {c r : Nat} {l : List Int} (g : Gr c r l) {a : Nat} (ha : a < l.length) : at0 (mirL c r l false) (mir c a) = at0 l a := by
  rw [g.len] at ha
  have h1 := (mir_facts g.c1 ha).1
  have h2 := mir_mir g.c1 ha
  unfold mirL
  rw [at0_map_range _ _ _ h1]
  have e : (mir c a) / c * c + c - 1 - (mir c a) % c = a := h2
  simp [e]
theorem trL_at {c r : Nat} {l : List Int} (g : Gr c r l) {a : Nat} (ha : a < l.length) : at0 (trL c r l) (acr c r a) = at0 l a := by
  rw [g.len] at ha
  have h1 := (acr_facts g.c1 ha).1
  rw [Nat.mul_comm r c] at h1
  have h2 := acr_acr g.c1 g.r1 ha
  unfold trL
  rw [at0_map_range _ _ _ h1]
  have e : acr c r a % r * c + acr c r a / r = a := h2
  rw [e]
theorem gr_of {c r c' r' : Nat} {l l' : List Int} (g : Gr c r l) (h1 : 1 ≤ c') (h2 : 1 ≤ r') (h3 : l'.length = c' * r') (h : ∀ i, i < l'.length → ∃ j, j < l.length ∧ at0 l' i = at0 l j) : Gr c' r' l' :=
  ⟨h1, h2, h3, fun i hi => by obtain ⟨j, hj, e⟩ := h i hi; rw [e]; exact g.lo j hj, fun i hi => by obtain ⟨j, hj, e⟩ := h i hi; rw [e]; exact g.hi j hj⟩
theorem mirL_gr {c r : Nat} {l : List Int} (g : Gr c r l) : Gr c r (mirL c r l false) :=
  gr_of g g.c1 g.r1 (mirL_len _ _ _ _) fun i hi => by
    rw [mirL_len] at hi
    refine ⟨mir c i, by rw [g.len]; exact (mir_facts g.c1 hi).1, ?_⟩
    have := mirL_at g (a := mir c i) (by rw [g.len]; exact (mir_facts g.c1 hi).1)
    rwa [mir_mir g.c1 hi] at this
theorem trL_gr {c r : Nat} {l : List Int} (g : Gr c r l) : Gr r c (trL c r l) :=
  gr_of g g.r1 g.c1 (by rw [trL_len, Nat.mul_comm]) fun i hi => by
    rw [trL_len, Nat.mul_comm] at hi
    have h1 := (acr_facts g.r1 hi).1
    refine ⟨acr r c i, by rw [g.len]; exact h1, ?_⟩
    have := trL_at g (a := acr r c i) (by rw [g.len]; exact h1)
    rwa [acr_acr g.r1 g.c1 hi] at this
/-- the times in the mirror, and across -/
theorem mir_times {c r : Nat} {l t u : List Int} {s : Nat} (g : Gr c r l) (hs : s < l.length) (h : IsT c l s t) (h' : IsT c (mirL c r l false) (mir c s) u) : ∀ i, i < l.length → at0 u (mir c i) = at0 t i :=
  IsT.iso (f := mir c) (g := mir c) (by rw [mirL_len, g.len]) (fun a ha => by rw [g.len] at ha ⊢; exact ⟨(mir_facts g.c1 ha).1, mir_mir g.c1 ha⟩) (fun a ha => by rw [g.len] at ha ⊢; exact ⟨(mir_facts g.c1 ha).1, mir_mir g.c1 ha⟩)
    (mir_cost g fun a ha => mirL_at g ha) hs h h'
theorem acr_times {c r : Nat} {l t u : List Int} {s : Nat} (g : Gr c r l) (hs : s < l.length) (h : IsT c l s t) (h' : IsT r (trL c r l) (acr c r s) u) : ∀ i, i < l.length → at0 u (acr c r i) = at0 t i :=
  IsT.iso (f := acr c r) (g := acr r c) (by rw [trL_len, g.len]) (fun a ha => by rw [g.len] at ha ⊢; exact ⟨by have := (acr_facts g.c1 ha).1; rwa [Nat.mul_comm r c] at this, acr_acr g.c1 g.r1 ha⟩)
    (fun a ha => by rw [g.len, Nat.mul_comm] at ha; have h1 := (acr_facts g.r1 ha).1; exact ⟨by rw [g.len]; exact h1, acr_acr g.r1 g.c1 ha⟩)
    (acr_cost g fun a ha => trL_at g ha) hs h h'
end Im
namespace Im
/-- the cell that a mirrored ground takes for column x, row y -/
def mirI (c r : Nat) (rows : Bool) (x y : Nat) : Nat := if rows then (r - 1 - y) * c + x else y * c + c - 1 - x
end Im
namespace Go.Proofs.YtdimmlljjmmdbaaGreatDoor
open Go.RowKit Go.Shelf
set_option maxHeartbeats 8000000
set_option maxRecDepth 100000
theorem c130 (c r : Nat) (A : Option Addr) (n cap : Nat) (rows : Bool) (x y bb gb : Nat) (w : World) (hc : c ≤ 16) (hr : r ≤ 16) (hx : x < c) (hy : y < r) (hb : w.cell? ⟨bb, 0, none⟩ = some (.bool rows)) (hg : w.heap[gb]? = some (.cells #[.int .i64 c, .int .i64 r, .slice A n cap] 35 (0, 0))) :
   Calls Tryz.prog 130 #[.int .i64 x, .int .i64 y, .pointer (some ⟨bb, 0, none⟩), .pointer (some ⟨gb, 0, none⟩)] w fun en w' => en = .returned (.int .i64 (Im.mirI c r rows x y : Nat)) ∧ w = w' := by
  have q0 : w.cell? ⟨gb, 0, none⟩ = some (.int .i64 c) := cell_at hg rfl
  have q1 : w.cell? ⟨gb, 1, none⟩ = some (.int .i64 r) := cell_at hg rfl
  have z0 := cell_lt q0
  have zb := cell_lt hb
  cases rows
  · obtain ⟨p, hp⟩ : ∃ p, p = y * c := ⟨_, rfl⟩
    have hpb : p ≤ 16 * 16 := by rw [hp]; exact Nat.mul_le_mul (by omega) hc
    have hpc : (y : Int) * (c : Int) = (p : Int) := by rw [hp]; simp
    obtain ⟨u, hu⟩ : ∃ u, u = p + c := ⟨_, rfl⟩
    obtain ⟨v, hv⟩ : ∃ v, v = p + c - 1 := ⟨_, rfl⟩
    obtain ⟨k, hk⟩ : ∃ k, k = p + c - 1 - x := ⟨_, rfl⟩
    have e1 : IntKind.i64.wrap ((y : Int) * (c : Int)) = (p : Int) := by rw [hpc]; exact wrapI (by omega)
    have e2 : IntKind.i64.wrap ((p : Int) + (c : Int)) = (u : Int) := by rw [wrapI (by omega)]; omega
    have e3 : IntKind.i64.wrap ((u : Int) - 1) = (v : Int) := by rw [wrapI (by omega)]; omega
    have e4 : IntKind.i64.wrap ((v : Int) - (x : Int)) = (k : Int) := by rw [wrapI (by omega)]; omega
    have HV : Hid (Im.mirI c r false x y = k) := Lib.hid (by rw [hk, hp]; rfl)
    rw [HV.out]
    clear hp hpb hpc hu hv hk HV hg
    go_enter Tryz.func130, Tryz.ntmps130
    go_wp2
    go_ret
    exact ⟨rfl, rfl⟩
  · obtain ⟨q, hq⟩ : ∃ q, q = r - 1 - y := ⟨_, rfl⟩
    obtain ⟨p, hp⟩ : ∃ p, p = q * c := ⟨_, rfl⟩
    have hpb : p ≤ 16 * 16 := by rw [hp]; exact Nat.mul_le_mul (by omega) hc
    have hpc : (q : Int) * (c : Int) = (p : Int) := by rw [hp]; simp
    obtain ⟨u, hu⟩ : ∃ u, u = r - 1 := ⟨_, rfl⟩
    obtain ⟨k, hk⟩ : ∃ k, k = p + x := ⟨_, rfl⟩
    have e1 : IntKind.i64.wrap ((r : Int) - 1) = (u : Int) := by rw [wrapI (by omega)]; omega
    have e2 : IntKind.i64.wrap ((u : Int) - (y : Int)) = (q : Int) := by rw [wrapI (by omega)]; omega
    have e3 : IntKind.i64.wrap ((q : Int) * (c : Int)) = (p : Int) := by rw [hpc]; exact wrapI (by omega)
    have e4 : IntKind.i64.wrap ((p : Int) + (x : Int)) = (k : Int) := by rw [wrapI (by omega)]; omega
    have HV : Hid (Im.mirI c r true x y = k) := Lib.hid (by rw [hk, hp, hq]; rfl)
    rw [HV.out]
    clear hp hpb hpc hu hq hk HV hg
    go_enter Tryz.func130, Tryz.ntmps130
    go_wp2
    go_ret
    exact ⟨rfl, rfl⟩
theorem c131 (c r : Nat) (A : Option Addr) (n cap : Nat) (x y gb : Nat) (w : World) (hc : c ≤ 16) (hr : r ≤ 16) (hx : x < r) (hy : y < c) (hg : w.heap[gb]? = some (.cells #[.int .i64 c, .int .i64 r, .slice A n cap] 35 (0, 0))) :
   Calls Tryz.prog 131 #[.int .i64 x, .int .i64 y, .pointer (some ⟨gb, 0, none⟩)] w fun en w' => en = .returned (.int .i64 (x * c + y : Nat)) ∧ w = w' := by
  have q0 : w.cell? ⟨gb, 0, none⟩ = some (.int .i64 c) := cell_at hg rfl
  have z0 := cell_lt q0
  obtain ⟨p, hp⟩ : ∃ p, p = x * c := ⟨_, rfl⟩
  have hpb : p ≤ 16 * 16 := by rw [hp]; exact Nat.mul_le_mul (by omega) hc
  have hpc : (x : Int) * (c : Int) = (p : Int) := by rw [hp]; simp
  obtain ⟨k, hk⟩ : ∃ k, k = p + y := ⟨_, rfl⟩
  have e1 : IntKind.i64.wrap ((x : Int) * (c : Int)) = (p : Int) := by rw [hpc]; exact wrapI (by omega)
  have e2 : IntKind.i64.wrap ((p : Int) + (y : Int)) = (k : Int) := by rw [wrapI (by omega)]; omega
  have HV : Hid (x * c + y = k) := Lib.hid (by rw [hk, hp])
  rw [HV.out]
  clear hp hpb hpc hk HV hg
  go_enter Tryz.func131, Tryz.ntmps131
  go_wp2
  go_ret
  exact ⟨rfl, rfl⟩
end Go.Proofs.YtdimmlljjmmdbaaGreatDoor
namespace Go.Proofs.YtdimmlljjmmdbaaGreatDoor
open Go.RowKit Go.Shelf
set_option maxHeartbeats 8000000
set_option maxRecDepth 100000
theorem mir_lt {c r : Nat} {rows : Bool} {x y : Nat} (hx : x < c) (hy : y < r) : Im.mirI c r rows x y < c * r := by
  unfold Im.mirI
  have key : ∀ q : Nat, q < r → q * c + c ≤ c * r := fun q hq => by
    have h := Nat.mul_le_mul_right c (show q + 1 ≤ r by omega)
    rw [Nat.add_mul, Nat.mul_comm r c] at h
    omega
  split
  · have h := key (r - 1 - y) (by omega)
    omega
  · have h := key y hy
    omega
theorem tr_lt {c r : Nat} {x y : Nat} (hx : x < r) (hy : y < c) : x * c + y < c * r := by
  have h := Nat.mul_le_mul_right c (show x + 1 ≤ r by omega)
  rw [Nat.add_mul, Nat.mul_comm r c] at h
  omega

theorem c129_m (c r : Nat) (A : Option Addr) (n cap : Nat) (l : List Int) (rows : Bool) (bb : Nat) (gb : Nat) (w : World) (g : Im.Gr c r l) (hc : c ≤ 16) (hr : r ≤ 16) (H : RdI w A n l) (hbb : w.cell? ⟨bb, 0, none⟩ = some (.bool rows)) (hg : w.heap[gb]? = some (.cells #[.int .i64 c, .int .i64 r, .slice A n cap] 35 (0, 0))) :
   Calls Tryz.prog 129 #[.agg #[.int .i64 c, .int .i64 r, .slice A n cap], .int .i64 c, .int .i64 r, .func (.func 130) #[] #[.pointer (some ⟨bb, 0, none⟩), .pointer (some ⟨gb, 0, none⟩)]] w fun en w' => ∃ og, en = .returned (.agg #[.int .i64 c, .int .i64 r, .slice (some ⟨og, 0, none⟩) n n]) ∧ RowI w' w.heap.size og n n (Im.mirL c r l rows) ∧ Below w.heap.size w w' := by
  have hln := H.len
  have hlr := g.len
  have hc1 := g.c1
  have hr1 := g.r1
  have hn256 : n ≤ 256 := by have : c * r ≤ 256 := Nat.mul_le_mul hc hr; omega
  have hn0 : 0 < n := by rw [← hln, hlr]; exact Nat.mul_pos hc1 hr1
  have HN : Hid (n = c * r) := Lib.hid (by omega)
  obtain ⟨ab, ao, rfl, zab⟩ := H.form hn0
  obtain ⟨i0, hi, hz0, hz1, hz2⟩ := info_parts info3
  have hmk1 := fun W => run_make_fill (P := Tryz.prog) 22 3 i0 (.int .i64 0) (fun _ => .int .i64 0) Tryz.underlying22 hi hz0 hz1 rfl n (by omega) (by rw [hz2]; omega) W
  have hsz3 : (Tryz.prog.info? 3).map (·.size) = some 1 := by rw [hi]; simp [hz1]
  obtain ⟨w1, hW⟩ : ∃ W, W = (((w.alloc (Obj.cells #[.int .i64 c, .int .i64 r, .slice (some ⟨ab, ao, none⟩) n cap] 35)).alloc (Obj.cells #[.int .i64 0, .int .i64 0, .slice none 0 0] 35)).alloc (Obj.cells (fillA (.int .i64 0) (fun _ => .int .i64 0) n 0) 3)).alloc (Obj.cells #[.int .i64 c, .int .i64 r, .slice (some ⟨w.heap.size + 1 + 1, 0, none⟩) n n] 35) := ⟨_, rfl⟩
  have hG1 : w1.heap[w.heap.size]? = some (.cells #[.int .i64 c, .int .i64 r, .slice (some ⟨ab, ao, none⟩) n cap] 35 (0, 0)) := by rw [hW]; exact heap_old (by simp <;> omega) (heap_old (by simp <;> omega) (heap_old (by simp <;> omega) (heap_new rfl)))
  have hZ1 : w1.heap[w.heap.size + 1]? = some (.cells #[.int .i64 0, .int .i64 0, .slice none 0 0] 35 (0, 0)) := by rw [hW]; exact heap_old (by simp <;> omega) (heap_old (by simp <;> omega) (heap_new (by simp)))
  have hO1 : w1.heap[w.heap.size + 1 + 1]? = some (.cells (fillA (.int .i64 0) (fun _ => .int .i64 0) n 0) 3 (0, 0)) := by rw [hW]; exact heap_old (by simp <;> omega) (heap_new (by simp))
  have hS1 : w1.heap[w.heap.size + 1 + 1 + 1]? = some (.cells #[.int .i64 c, .int .i64 r, .slice (some ⟨w.heap.size + 1 + 1, 0, none⟩) n n] 35 (0, 0)) := by rw [hW]; exact heap_new (by simp)
  have hB1 : Below w.heap.size w w1 := by rw [hW]; exact ((below2 _ _ _).alloc (by simp <;> omega) _).alloc (by simp <;> omega) _
  obtain ⟨w2, hW2⟩ : ∃ W, W = w1.setCells (w.heap.size + 1 + 1) 0 (encI l) := ⟨_, rfl⟩
  have hfs : (fillA (.int .i64 0) (fun _ => Value.int .i64 0) n 0).size = (encI l).toArray.size := by rw [fillA_size]; simp [encI, hln]
  have hO2 : w2.heap[w.heap.size + 1 + 1]? = some (.cells (encI l).toArray 3 (0, 0)) := by rw [hW2]; exact setCells_blk hO1 hfs
  have hG2 := (heap_setsO (encI l) 0 w1 (w.heap.size + 1 + 1) w.heap.size (by omega)).trans hG1
  have hZ2 := (heap_setsO (encI l) 0 w1 (w.heap.size + 1 + 1) (w.heap.size + 1) (by omega)).trans hZ1
  have hS2 := (heap_setsO (encI l) 0 w1 (w.heap.size + 1 + 1) (w.heap.size + 1 + 1 + 1) (by omega)).trans hS1
  have hB2 : Below w.heap.size w w2 := by rw [hW2]; exact hB1.grown (setCells_grown _ _ _ _).1 hB1.size (fun j hj => by cases hj; omega)
  rw [← hW2] at hG2 hZ2 hS2
  have H1 := H.below hB1
  have hcp : ∀ ty dc sc, (Builtin.copy_ #[22, 22] ty #[.slice (some ⟨w.heap.size + 1 + 1, 0, none⟩) n dc, .slice (some ⟨ab, ao, none⟩) n sc]).run Tryz.prog w1 = .ok (.int .i64 n) w2 := fun ty dc sc => by
    rw [hW2]
    exact run_copyN w1 22 22 ty 3 (w.heap.size + 1 + 1) 0 n dc ⟨ab, ao, none⟩ n sc 1 n (encI l) Tryz.underlying22 hsz3 (Nat.min_self n) (by simp [encI, hln]) (RdS.news H1 (by omega)) (fun j hj => by
      rw [Nat.zero_add]
      have hj' : j < n := by simpa [encI, hln] using hj
      rw [cell_at (i := j) (v := .int .i64 0) hO1 (by rw [fillA_get _ _ _ _ _ hj']; simp)]
      rfl) (fun j hj => by
      rw [Nat.zero_add]
      exact free_at hO1) (fun v hv => by
      obtain ⟨x, _, rfl⟩ := List.mem_map.1 hv
      rfl)
  have HLL : Hid ((Im.mirL c r l rows).length = n) := Lib.hid (by rw [Im.mirL_len]; omega)
  have HAT : Hid (∀ k, k < n → Im.at0 (Im.mirL c r l rows) k = Im.at0 l (Im.mirI c r rows (k % c) (k / c)) ∧ Im.mirI c r rows (k % c) (k / c) < n) := Lib.hid (fun k hk => by
    have hkc : k < c * r := by omega
    refine ⟨?_, ?_⟩
    · exact (Im.at0_map_range _ _ _ hkc).trans (by unfold Im.mirI; cases rows <;> rfl)
    · rw [HN.out]; exact mir_lt (Nat.mod_lt _ (by omega)) (Nat.div_lt_of_lt_mul hkc))
  obtain ⟨LL, hLL⟩ : ∃ L, L = Im.mirL c r l rows := ⟨_, rfl⟩
  rw [← hLL] at HLL HAT ⊢
  clear hLL
  have HR0 : Hid (RowI w2 w.heap.size (w.heap.size + 1 + 1) n n (Im.mix l LL 0)) := Lib.hid (by
    rw [Im.mix_zero]
    exact ⟨_, hO2, by simp [encI, hln], Nat.le_refl _, by omega, hln, by rw [List.take_of_length_le (by simp [encI, hln])], by omega⟩)
  have HGB2 := Lib.hid hG2
  have HZB2 := Lib.hid hZ2
  have HSB2 := Lib.hid hS2
  have HB2 := Lib.hid hB2
  have HH := Lib.hid H
  have HG0 := Lib.hid hg
  have KBOOL := Lib.hid hbb
  clear hG1 hZ1 hO1 hS1 hB1 hfs hO2 hG2 hZ2 hS2 hB2 H1 H hg hsz3 hbb
  simp only [hW] at hcp
  clear hW hW2
  have qs : w2.cell? ⟨w.heap.size + 1 + 1 + 1, 2, none⟩ = some (.slice (some ⟨w.heap.size + 1 + 1, 0, none⟩) n n) := cell_at HSB2.out rfl
  have zs := cell_lt qs
  go_enter Tryz.func129, Tryz.ntmps129
  go_wp2_with fail
  clear hcp hmk1 qs zs
  obtain ⟨og, hog⟩ : ∃ b, b = w.heap.size + 1 + 1 := ⟨_, rfl⟩
  obtain ⟨sb, hsb⟩ : ∃ b, b = w.heap.size + 1 + 1 + 1 := ⟨_, rfl⟩
  go_loopw [26] (fun i wr => ∃ k : Nat, k ≤ n ∧ i = .int .i64 k ∧ Hid (RowI wr w.heap.size (w.heap.size + 1 + 1) n n (Im.mix l LL k)) ∧ Hid (wr.heap[w.heap.size]? = some (.cells #[.int .i64 c, .int .i64 r, .slice (some ⟨ab, ao, none⟩) n cap] 35 (0, 0))) ∧ Hid (wr.heap[w.heap.size + 1]? = some (.cells #[.int .i64 0, .int .i64 0, .slice none 0 0] 35 (0, 0))) ∧ Hid (wr.heap[w.heap.size + 1 + 1 + 1]? = some (.cells #[.int .i64 c, .int .i64 r, .slice (some ⟨w.heap.size + 1 + 1, 0, none⟩) n n] 35 (0, 0))) ∧ Hid (Below w.heap.size w wr)) (fun i _ => n - (intOf i).toNat)
  case atStart => exact ⟨0, Nat.zero_le _, rfl, HR0, HGB2, HZB2, HSB2, HB2⟩
  case round =>
    clear HR0 HGB2 HZB2 HSB2 HB2
    obtain ⟨k, hk, rfl, HR, HGB, HZB, HSB, HB⟩ := hrel
    have hwk : IntKind.i64.wrap ((k : Int) + 1) = ((k + 1 : Nat) : Int) := by rw [wrapI (by omega)]; simp
    by_cases hlt : k < n
    rotate_left
    · obtain rfl : n = k := by omega
      have HRF : Hid (RowI wr w.heap.size (w.heap.size + 1 + 1) n n LL) := Lib.hid (by
        have e : Im.mix l LL n = LL := by
          have h := Im.mix_full (a := l) (b := LL) (by rw [HLL.out]; omega)
          rwa [hln] at h
        rw [← e]; exact HR.out)
      have hZ := HZB.out
      have qs0 : wr.cell? ⟨w.heap.size + 1 + 1 + 1, 0, none⟩ = some (.int .i64 c) := cell_at HSB.out rfl
      have qs1 : wr.cell? ⟨w.heap.size + 1 + 1 + 1, 1, none⟩ = some (.int .i64 r) := cell_at HSB.out rfl
      have qs2 : wr.cell? ⟨w.heap.size + 1 + 1 + 1, 2, none⟩ = some (.slice (some ⟨w.heap.size + 1 + 1, 0, none⟩) n n) := cell_at HSB.out rfl
      have zs := cell_lt qs2
      go_wp2_with (refine wpList_store_blk rfl 35 _ _ rfl (w.heap.size + 1) _ rfl rfl hZ ?s1 ?s2 ?s3 ?_)
      case s1 => rfl
      case s2 => kernel_rfl
      case s3 => simp [Value.oneCell']
      intro w4 hT4 hg4 hs4
      have HB4 : Hid (Below w.heap.size w w4) := Lib.hid (HB.out.grown hg4 HB.out.size (fun j hj => by cases hj; omega))
      have HR4 : Hid (RowI w4 w.heap.size (w.heap.size + 1 + 1) n n LL) := Lib.hid (by
        obtain ⟨cs, h1, h2⟩ := HRF.out
        exact ⟨cs, (hg4.block _ (Array.getElem?_eq_some_iff.1 h1).1 (by simp)).trans h1, h2⟩)
      clear hg4 hs4 hZ qs0 qs1 qs2 zs
      have c0 := cell_at (i := 0) hT4 rfl
      have c1 := cell_at (i := 1) hT4 rfl
      have c2 := cell_at (i := 2) hT4 rfl
      go_wp2
      exact bodyPost_ret (results_blk rfl rfl hT4 _ Tryz.underlying35 rfl (by kernel_rfl)) rfl ⟨w.heap.size + 1 + 1, rfl, HR4.out, HB4.out⟩
    have hlt2 : (k : Int) < (n : Int) := by omega
    have hk0 : (0 : Int) ≤ (k : Int) := by omega
    have hd0 : ((c : Int) == 0) = false := by simp; omega
    have hdz : ¬ c = 0 := by omega
    have hmx : (k : Int).tmod (c : Int) = ((k % c : Nat) : Int) := Int.ofNat_tmod _ _
    have hqx : (k : Int).tdiv (c : Int) = ((k / c : Nat) : Int) := Int.ofNat_tdiv _ _
    have hwx : IntKind.i64.wrap ((k / c : Nat) : Int) = ((k / c : Nat) : Int) := wrapN (Nat.le_trans (Nat.div_le_self k c) (by omega))
    have hx1 : k % c < c := Nat.mod_lt _ (by omega)
    have hy1 : k / c < r := Nat.div_lt_of_lt_mul (by have := HN.out; omega)
    obtain ⟨hat, hjn⟩ := HAT.out k hlt
    have HSET : Hid ((Im.mix l LL k).set k (Im.at0 LL k) = Im.mix l LL (k + 1)) := Lib.hid (Im.mix_set (by omega))
    rw [hat] at HSET
    have HCON : Hid (∀ W, Below w.heap.size w W → Calls Tryz.prog 130 #[.int .i64 ((k % c : Nat) : Int), .int .i64 ((k / c : Nat) : Int), .pointer (some ⟨bb, 0, none⟩), .pointer (some ⟨gb, 0, none⟩)] W fun en w' => en = .returned (.int .i64 ((Im.mirI c r rows (k % c) (k / c) : Nat) : Int)) ∧ W = w') := Lib.hid (fun W hb => c130 c r _ n cap rows (k % c) (k / c) bb gb W hc hr hx1 hy1 ((hb.cell (p := ⟨bb, 0, none⟩) (cell_lt KBOOL.out)).trans KBOOL.out) (blkb HG0.out hb))
    generalize Im.mirI c r rows (k % c) (k / c) = j at hjn HSET HCON
    generalize k % c = x0 at hmx hx1 HCON
    generalize k / c = y0 at hqx hwx hy1 HCON
    have hjn2 : (j : Int) < (n : Int) := by omega
    have hj0 : (0 : Int) ≤ (j : Int) := by omega
    have HX : Hid (∀ W, Below w.heap.size w W → W.cell? ⟨ab, ao + j, none⟩ = some (.int .i64 (Im.at0 l j)) ∧ ab < W.heap.size) := Lib.hid (fun W hb => ⟨(HH.out.below hb).get hjn, Nat.lt_of_lt_of_le zab hb.size⟩)
    generalize Im.at0 l j = x at HSET HX
    have qx := (HX.out wr HB.out).1
    have zx := (HX.out wr HB.out).2
    have qs2 : wr.cell? ⟨w.heap.size + 1 + 1 + 1, 2, none⟩ = some (.slice (some ⟨w.heap.size + 1 + 1, 0, none⟩) n n) := cell_at HSB.out rfl
    have qg2 : wr.cell? ⟨w.heap.size, 2, none⟩ = some (.slice (some ⟨ab, ao, none⟩) n cap) := cell_at HGB.out rfl
    have zs := cell_lt qs2
    have zg := cell_lt qg2
    go_wp2_with fail
    refine wp_region_planL [(0, true), (1, true), (2, true), (3, true), (4, true), (5, true), (6, true), (7, true), (8, true), (9, true), (10, true), (11, true), (12, false), (13, true), (14, true), (15, true)] wr.heap.size 16 (by kernel_rfl) (by kernel_rfl) (Nat.le_refl _) (fun _ _ d _ _ h => by cases d <;> exact h) ?_
    have hC : Below wr.heap.size wr wr := Below.refl _ _
    repeat (first | (refine wpPlanLA_skip _ rfl (by rfl) ?_; simp only [Act.put, List.setIfInBounds_toArray, List.set_cons_zero, List.set_cons_succ]) | (refine wpPlanLA_soft _ ?_ rfl (by rfl) ?_ ?_; rotate_left; (intro wq hq hcq; go_simp; first | exact rfl | exact ⟨rfl, rfl⟩); simp only [Act.put, List.setIfInBounds_toArray, List.set_cons_zero, List.set_cons_succ]))
    refine wpPlanLA_hard _ rfl (by rfl) (fun w3 hS K hK => ?_)
    replace hC := hC.call hS rfl
    go_simp
    refine (HCON.out w3 (HB.out.call hS rfl)).mono ?_
    rintro e w' ⟨rfl, rfl⟩
    refine hK _ _ hC ?_
    clear hK K
    try simp only [Act.put, List.setIfInBounds_toArray, List.set_cons_zero, List.set_cons_succ]
    repeat (first | (refine wpPlanLA_skip _ rfl (by rfl) ?_; simp only [Act.put, List.setIfInBounds_toArray, List.set_cons_zero, List.set_cons_succ]) | (refine wpPlanLA_soft _ ?_ rfl (by rfl) ?_ ?_; rotate_left; (intro wq hq hcq; go_simp; first | exact rfl | exact ⟨rfl, rfl⟩); simp only [Act.put, List.setIfInBounds_toArray, List.set_cons_zero, List.set_cons_succ]))
    refine wpPlanLA_last _ rfl (by rfl) (fun w4 hS4 K hK => ?_)
    replace hC := hC.call hS4 rfl
    have HB4 := Lib.hid (HB.out.call hC rfl)
    have HR4 := Lib.hid (HR.out.below hC)
    have HG4 := Lib.hid (blkb HGB.out hC)
    have HZ4 := Lib.hid (blkb HZB.out hC)
    have HS4 := Lib.hid (blkb HSB.out hC)
    have qc := (HR4.out.cell hlt).1
    have qf := (HR4.out.cell hlt).2.1
    have zo := (HR4.out.cell hlt).2.2
    clear hS hS4 qx zx qs2 qg2 zs zg hC
    go_simp
    refine hK _ _ (fun w5 hS5 => ?_)
    clear hK K
    have HB5 := Lib.hid ((HB4.out.setCell (p := ⟨w.heap.size + 1 + 1, k, none⟩) (by show _ ≤ w.heap.size + 1 + 1; omega) (.int .i64 x)).call hS5 rfl)
    have HR5 : Hid (RowI w5 w.heap.size (w.heap.size + 1 + 1) n n (Im.mix l LL (k + 1))) := Lib.hid (by rw [← HSET.out]; exact (HR4.out.set k x).below hS5)
    have HG5 := Lib.hid (blkb ((set_far _ (by dsimp only; omega)).trans HG4.out) hS5)
    have HZ5 := Lib.hid (blkb ((set_far _ (by dsimp only; omega)).trans HZ4.out) hS5)
    have HS5 := Lib.hid (blkb ((set_far _ (by dsimp only; omega)).trans HS4.out) hS5)
    clear hS5 qc qf zo HB4 HR4 HG4 HZ4 HS4
    go_wp2
    go_roundw
    case rel => exact ⟨k + 1, by omega, by go_num, HR5, HG5, HZ5, HS5, HB5⟩
    case measure => simp [intOf]; omega

theorem c129_t (c r : Nat) (A : Option Addr) (n cap : Nat) (l : List Int) (gb : Nat) (w : World) (g : Im.Gr c r l) (hc : c ≤ 16) (hr : r ≤ 16) (H : RdI w A n l) (hg : w.heap[gb]? = some (.cells #[.int .i64 c, .int .i64 r, .slice A n cap] 35 (0, 0))) :
   Calls Tryz.prog 129 #[.agg #[.int .i64 c, .int .i64 r, .slice A n cap], .int .i64 r, .int .i64 c, .func (.func 131) #[] #[.pointer (some ⟨gb, 0, none⟩)]] w fun en w' => ∃ og, en = .returned (.agg #[.int .i64 r, .int .i64 c, .slice (some ⟨og, 0, none⟩) n n]) ∧ RowI w' w.heap.size og n n (Im.trL c r l) ∧ Below w.heap.size w w' := by
  have hln := H.len
  have hlr := g.len
  have hc1 := g.c1
  have hr1 := g.r1
  have hn256 : n ≤ 256 := by have : c * r ≤ 256 := Nat.mul_le_mul hc hr; omega
  have hn0 : 0 < n := by rw [← hln, hlr]; exact Nat.mul_pos hc1 hr1
  have HN : Hid (n = c * r) := Lib.hid (by omega)
  obtain ⟨ab, ao, rfl, zab⟩ := H.form hn0
  obtain ⟨i0, hi, hz0, hz1, hz2⟩ := info_parts info3
  have hmk1 := fun W => run_make_fill (P := Tryz.prog) 22 3 i0 (.int .i64 0) (fun _ => .int .i64 0) Tryz.underlying22 hi hz0 hz1 rfl n (by omega) (by rw [hz2]; omega) W
  have hsz3 : (Tryz.prog.info? 3).map (·.size) = some 1 := by rw [hi]; simp [hz1]
  obtain ⟨w1, hW⟩ : ∃ W, W = (((w.alloc (Obj.cells #[.int .i64 c, .int .i64 r, .slice (some ⟨ab, ao, none⟩) n cap] 35)).alloc (Obj.cells #[.int .i64 0, .int .i64 0, .slice none 0 0] 35)).alloc (Obj.cells (fillA (.int .i64 0) (fun _ => .int .i64 0) n 0) 3)).alloc (Obj.cells #[.int .i64 r, .int .i64 c, .slice (some ⟨w.heap.size + 1 + 1, 0, none⟩) n n] 35) := ⟨_, rfl⟩
  have hG1 : w1.heap[w.heap.size]? = some (.cells #[.int .i64 c, .int .i64 r, .slice (some ⟨ab, ao, none⟩) n cap] 35 (0, 0)) := by rw [hW]; exact heap_old (by simp <;> omega) (heap_old (by simp <;> omega) (heap_old (by simp <;> omega) (heap_new rfl)))
  have hZ1 : w1.heap[w.heap.size + 1]? = some (.cells #[.int .i64 0, .int .i64 0, .slice none 0 0] 35 (0, 0)) := by rw [hW]; exact heap_old (by simp <;> omega) (heap_old (by simp <;> omega) (heap_new (by simp)))
  have hO1 : w1.heap[w.heap.size + 1 + 1]? = some (.cells (fillA (.int .i64 0) (fun _ => .int .i64 0) n 0) 3 (0, 0)) := by rw [hW]; exact heap_old (by simp <;> omega) (heap_new (by simp))
  have hS1 : w1.heap[w.heap.size + 1 + 1 + 1]? = some (.cells #[.int .i64 r, .int .i64 c, .slice (some ⟨w.heap.size + 1 + 1, 0, none⟩) n n] 35 (0, 0)) := by rw [hW]; exact heap_new (by simp)
  have hB1 : Below w.heap.size w w1 := by rw [hW]; exact ((below2 _ _ _).alloc (by simp <;> omega) _).alloc (by simp <;> omega) _
  obtain ⟨w2, hW2⟩ : ∃ W, W = w1.setCells (w.heap.size + 1 + 1) 0 (encI l) := ⟨_, rfl⟩
  have hfs : (fillA (.int .i64 0) (fun _ => Value.int .i64 0) n 0).size = (encI l).toArray.size := by rw [fillA_size]; simp [encI, hln]
  have hO2 : w2.heap[w.heap.size + 1 + 1]? = some (.cells (encI l).toArray 3 (0, 0)) := by rw [hW2]; exact setCells_blk hO1 hfs
  have hG2 := (heap_setsO (encI l) 0 w1 (w.heap.size + 1 + 1) w.heap.size (by omega)).trans hG1
  have hZ2 := (heap_setsO (encI l) 0 w1 (w.heap.size + 1 + 1) (w.heap.size + 1) (by omega)).trans hZ1
  have hS2 := (heap_setsO (encI l) 0 w1 (w.heap.size + 1 + 1) (w.heap.size + 1 + 1 + 1) (by omega)).trans hS1
  have hB2 : Below w.heap.size w w2 := by rw [hW2]; exact hB1.grown (setCells_grown _ _ _ _).1 hB1.size (fun j hj => by cases hj; omega)
  rw [← hW2] at hG2 hZ2 hS2
  have H1 := H.below hB1
  have hcp : ∀ ty dc sc, (Builtin.copy_ #[22, 22] ty #[.slice (some ⟨w.heap.size + 1 + 1, 0, none⟩) n dc, .slice (some ⟨ab, ao, none⟩) n sc]).run Tryz.prog w1 = .ok (.int .i64 n) w2 := fun ty dc sc => by
    rw [hW2]
    exact run_copyN w1 22 22 ty 3 (w.heap.size + 1 + 1) 0 n dc ⟨ab, ao, none⟩ n sc 1 n (encI l) Tryz.underlying22 hsz3 (Nat.min_self n) (by simp [encI, hln]) (RdS.news H1 (by omega)) (fun j hj => by
      rw [Nat.zero_add]
      have hj' : j < n := by simpa [encI, hln] using hj
      rw [cell_at (i := j) (v := .int .i64 0) hO1 (by rw [fillA_get _ _ _ _ _ hj']; simp)]
      rfl) (fun j hj => by
      rw [Nat.zero_add]
      exact free_at hO1) (fun v hv => by
      obtain ⟨x, _, rfl⟩ := List.mem_map.1 hv
      rfl)
  have HLL : Hid ((Im.trL c r l).length = n) := Lib.hid (by rw [Im.trL_len]; omega)
  have HAT : Hid (∀ k, k < n → Im.at0 (Im.trL c r l) k = Im.at0 l ((k % r * c + k / r)) ∧ (k % r * c + k / r) < n) := Lib.hid (fun k hk => by
    have hkc : k < c * r := by omega
    refine ⟨?_, ?_⟩
    · exact (Im.at0_map_range _ _ _ hkc).trans rfl
    · rw [HN.out]; exact tr_lt (Nat.mod_lt _ (by omega)) (Nat.div_lt_of_lt_mul (by rw [Nat.mul_comm]; exact hkc)))
  obtain ⟨LL, hLL⟩ : ∃ L, L = Im.trL c r l := ⟨_, rfl⟩
  rw [← hLL] at HLL HAT ⊢
  clear hLL
  have HR0 : Hid (RowI w2 w.heap.size (w.heap.size + 1 + 1) n n (Im.mix l LL 0)) := Lib.hid (by
    rw [Im.mix_zero]
    exact ⟨_, hO2, by simp [encI, hln], Nat.le_refl _, by omega, hln, by rw [List.take_of_length_le (by simp [encI, hln])], by omega⟩)
  have HGB2 := Lib.hid hG2
  have HZB2 := Lib.hid hZ2
  have HSB2 := Lib.hid hS2
  have HB2 := Lib.hid hB2
  have HH := Lib.hid H
  have HG0 := Lib.hid hg
  clear hG1 hZ1 hO1 hS1 hB1 hfs hO2 hG2 hZ2 hS2 hB2 H1 H hg hsz3
  simp only [hW] at hcp
  clear hW hW2
  have qs : w2.cell? ⟨w.heap.size + 1 + 1 + 1, 2, none⟩ = some (.slice (some ⟨w.heap.size + 1 + 1, 0, none⟩) n n) := cell_at HSB2.out rfl
  have zs := cell_lt qs
  go_enter Tryz.func129, Tryz.ntmps129
  go_wp2_with fail
  clear hcp hmk1 qs zs
  obtain ⟨og, hog⟩ : ∃ b, b = w.heap.size + 1 + 1 := ⟨_, rfl⟩
  obtain ⟨sb, hsb⟩ : ∃ b, b = w.heap.size + 1 + 1 + 1 := ⟨_, rfl⟩
  go_loopw [26] (fun i wr => ∃ k : Nat, k ≤ n ∧ i = .int .i64 k ∧ Hid (RowI wr w.heap.size (w.heap.size + 1 + 1) n n (Im.mix l LL k)) ∧ Hid (wr.heap[w.heap.size]? = some (.cells #[.int .i64 c, .int .i64 r, .slice (some ⟨ab, ao, none⟩) n cap] 35 (0, 0))) ∧ Hid (wr.heap[w.heap.size + 1]? = some (.cells #[.int .i64 0, .int .i64 0, .slice none 0 0] 35 (0, 0))) ∧ Hid (wr.heap[w.heap.size + 1 + 1 + 1]? = some (.cells #[.int .i64 r, .int .i64 c, .slice (some ⟨w.heap.size + 1 + 1, 0, none⟩) n n] 35 (0, 0))) ∧ Hid (Below w.heap.size w wr)) (fun i _ => n - (intOf i).toNat)
  case atStart => exact ⟨0, Nat.zero_le _, rfl, HR0, HGB2, HZB2, HSB2, HB2⟩
  case round =>
    clear HR0 HGB2 HZB2 HSB2 HB2
    obtain ⟨k, hk, rfl, HR, HGB, HZB, HSB, HB⟩ := hrel
    have hwk : IntKind.i64.wrap ((k : Int) + 1) = ((k + 1 : Nat) : Int) := by rw [wrapI (by omega)]; simp
    by_cases hlt : k < n
    rotate_left
    · obtain rfl : n = k := by omega
      have HRF : Hid (RowI wr w.heap.size (w.heap.size + 1 + 1) n n LL) := Lib.hid (by
        have e : Im.mix l LL n = LL := by
          have h := Im.mix_full (a := l) (b := LL) (by rw [HLL.out]; omega)
          rwa [hln] at h
        rw [← e]; exact HR.out)
      have hZ := HZB.out
      have qs0 : wr.cell? ⟨w.heap.size + 1 + 1 + 1, 0, none⟩ = some (.int .i64 r) := cell_at HSB.out rfl
      have qs1 : wr.cell? ⟨w.heap.size + 1 + 1 + 1, 1, none⟩ = some (.int .i64 c) := cell_at HSB.out rfl
      have qs2 : wr.cell? ⟨w.heap.size + 1 + 1 + 1, 2, none⟩ = some (.slice (some ⟨w.heap.size + 1 + 1, 0, none⟩) n n) := cell_at HSB.out rfl
      have zs := cell_lt qs2
      go_wp2_with (refine wpList_store_blk rfl 35 _ _ rfl (w.heap.size + 1) _ rfl rfl hZ ?s1 ?s2 ?s3 ?_)
      case s1 => rfl
      case s2 => kernel_rfl
      case s3 => simp [Value.oneCell']
      intro w4 hT4 hg4 hs4
      have HB4 : Hid (Below w.heap.size w w4) := Lib.hid (HB.out.grown hg4 HB.out.size (fun j hj => by cases hj; omega))
      have HR4 : Hid (RowI w4 w.heap.size (w.heap.size + 1 + 1) n n LL) := Lib.hid (by
        obtain ⟨cs, h1, h2⟩ := HRF.out
        exact ⟨cs, (hg4.block _ (Array.getElem?_eq_some_iff.1 h1).1 (by simp)).trans h1, h2⟩)
      clear hg4 hs4 hZ qs0 qs1 qs2 zs
      have c0 := cell_at (i := 0) hT4 rfl
      have c1 := cell_at (i := 1) hT4 rfl
      have c2 := cell_at (i := 2) hT4 rfl
      go_wp2
      exact bodyPost_ret (results_blk rfl rfl hT4 _ Tryz.underlying35 rfl (by kernel_rfl)) rfl ⟨w.heap.size + 1 + 1, rfl, HR4.out, HB4.out⟩
    have hlt2 : (k : Int) < (n : Int) := by omega
    have hk0 : (0 : Int) ≤ (k : Int) := by omega
    have hd0 : ((r : Int) == 0) = false := by simp; omega
    have hdz : ¬ r = 0 := by omega
    have hmx : (k : Int).tmod (r : Int) = ((k % r : Nat) : Int) := Int.ofNat_tmod _ _
    have hqx : (k : Int).tdiv (r : Int) = ((k / r : Nat) : Int) := Int.ofNat_tdiv _ _
    have hwx : IntKind.i64.wrap ((k / r : Nat) : Int) = ((k / r : Nat) : Int) := wrapN (Nat.le_trans (Nat.div_le_self k r) (by omega))
    have hx1 : k % r < r := Nat.mod_lt _ (by omega)
    have hy1 : k / r < c := Nat.div_lt_of_lt_mul (by have := HN.out; rw [Nat.mul_comm]; omega)
    obtain ⟨hat, hjn⟩ := HAT.out k hlt
    have HSET : Hid ((Im.mix l LL k).set k (Im.at0 LL k) = Im.mix l LL (k + 1)) := Lib.hid (Im.mix_set (by omega))
    rw [hat] at HSET
    have HCON : Hid (∀ W, Below w.heap.size w W → Calls Tryz.prog 131 #[.int .i64 ((k % r : Nat) : Int), .int .i64 ((k / r : Nat) : Int), .pointer (some ⟨gb, 0, none⟩)] W fun en w' => en = .returned (.int .i64 ((k % r * c + k / r : Nat) : Int)) ∧ W = w') := Lib.hid (fun W hb => c131 c r _ n cap (k % r) (k / r) gb W hc hr hx1 hy1 (blkb HG0.out hb))
    generalize (k % r * c + k / r) = j at hjn HSET HCON
    generalize k % r = x0 at hmx hx1 HCON
    generalize k / r = y0 at hqx hwx hy1 HCON
    have hjn2 : (j : Int) < (n : Int) := by omega
    have hj0 : (0 : Int) ≤ (j : Int) := by omega
    have HX : Hid (∀ W, Below w.heap.size w W → W.cell? ⟨ab, ao + j, none⟩ = some (.int .i64 (Im.at0 l j)) ∧ ab < W.heap.size) := Lib.hid (fun W hb => ⟨(HH.out.below hb).get hjn, Nat.lt_of_lt_of_le zab hb.size⟩)
    generalize Im.at0 l j = x at HSET HX
    have qx := (HX.out wr HB.out).1
    have zx := (HX.out wr HB.out).2
    have qs2 : wr.cell? ⟨w.heap.size + 1 + 1 + 1, 2, none⟩ = some (.slice (some ⟨w.heap.size + 1 + 1, 0, none⟩) n n) := cell_at HSB.out rfl
    have qg2 : wr.cell? ⟨w.heap.size, 2, none⟩ = some (.slice (some ⟨ab, ao, none⟩) n cap) := cell_at HGB.out rfl
    have zs := cell_lt qs2
    have zg := cell_lt qg2
    go_wp2_with fail
    refine wp_region_planL [(0, true), (1, true), (2, true), (3, true), (4, true), (5, true), (6, true), (7, true), (8, true), (9, true), (10, true), (11, true), (12, false), (13, true), (14, true), (15, true)] wr.heap.size 16 (by kernel_rfl) (by kernel_rfl) (Nat.le_refl _) (fun _ _ d _ _ h => by cases d <;> exact h) ?_
    have hC : Below wr.heap.size wr wr := Below.refl _ _
    repeat (first | (refine wpPlanLA_skip _ rfl (by rfl) ?_; simp only [Act.put, List.setIfInBounds_toArray, List.set_cons_zero, List.set_cons_succ]) | (refine wpPlanLA_soft _ ?_ rfl (by rfl) ?_ ?_; rotate_left; (intro wq hq hcq; go_simp; first | exact rfl | exact ⟨rfl, rfl⟩); simp only [Act.put, List.setIfInBounds_toArray, List.set_cons_zero, List.set_cons_succ]))
    refine wpPlanLA_hard _ rfl (by rfl) (fun w3 hS K hK => ?_)
    replace hC := hC.call hS rfl
    go_simp
    refine (HCON.out w3 (HB.out.call hS rfl)).mono ?_
    rintro e w' ⟨rfl, rfl⟩
    refine hK _ _ hC ?_
    clear hK K
    try simp only [Act.put, List.setIfInBounds_toArray, List.set_cons_zero, List.set_cons_succ]
    repeat (first | (refine wpPlanLA_skip _ rfl (by rfl) ?_; simp only [Act.put, List.setIfInBounds_toArray, List.set_cons_zero, List.set_cons_succ]) | (refine wpPlanLA_soft _ ?_ rfl (by rfl) ?_ ?_; rotate_left; (intro wq hq hcq; go_simp; first | exact rfl | exact ⟨rfl, rfl⟩); simp only [Act.put, List.setIfInBounds_toArray, List.set_cons_zero, List.set_cons_succ]))
    refine wpPlanLA_last _ rfl (by rfl) (fun w4 hS4 K hK => ?_)
    replace hC := hC.call hS4 rfl
    have HB4 := Lib.hid (HB.out.call hC rfl)
    have HR4 := Lib.hid (HR.out.below hC)
    have HG4 := Lib.hid (blkb HGB.out hC)
    have HZ4 := Lib.hid (blkb HZB.out hC)
    have HS4 := Lib.hid (blkb HSB.out hC)
    have qc := (HR4.out.cell hlt).1
    have qf := (HR4.out.cell hlt).2.1
    have zo := (HR4.out.cell hlt).2.2
    clear hS hS4 qx zx qs2 qg2 zs zg hC
    go_simp
    refine hK _ _ (fun w5 hS5 => ?_)
    clear hK K
    have HB5 := Lib.hid ((HB4.out.setCell (p := ⟨w.heap.size + 1 + 1, k, none⟩) (by show _ ≤ w.heap.size + 1 + 1; omega) (.int .i64 x)).call hS5 rfl)
    have HR5 : Hid (RowI w5 w.heap.size (w.heap.size + 1 + 1) n n (Im.mix l LL (k + 1))) := Lib.hid (by rw [← HSET.out]; exact (HR4.out.set k x).below hS5)
    have HG5 := Lib.hid (blkb ((set_far _ (by dsimp only; omega)).trans HG4.out) hS5)
    have HZ5 := Lib.hid (blkb ((set_far _ (by dsimp only; omega)).trans HZ4.out) hS5)
    have HS5 := Lib.hid (blkb ((set_far _ (by dsimp only; omega)).trans HS4.out) hS5)
    clear hS5 qc qf zo HB4 HR4 HG4 HZ4 HS4
    go_wp2
    go_roundw
    case rel => exact ⟨k + 1, by omega, by go_num, HR5, HG5, HZ5, HS5, HB5⟩
    case measure => simp [intOf]; omega

end Go.Proofs.YtdimmlljjmmdbaaGreatDoor
namespace Go.Proofs.YtdimmlljjmmdbaaGreatDoor
open Go.RowKit Go.Shelf
set_option maxHeartbeats 8000000
set_option maxRecDepth 100000

theorem c66_bad (c r : Int) (A : Option Addr) (n cap : Nat) (l : List Int) (rows : Bool) (w : World) (hl : n ≤ 1000000) (H : RdI w A n l) (hE : Mo.ground c r l ≠ 0) :
   Calls Tryz.prog 66 #[.agg #[.int .i64 c, .int .i64 r, .slice A n cap], .bool rows] w fun en w' => en = .returned (.tuple #[.agg #[.int .i64 0, .int .i64 0, .slice none 0 0], .int .i64 (Mo.ground c r l)]) ∧ Below w.heap.size w w' := by
  obtain ⟨E, hE1⟩ : ∃ E, E = Mo.ground c r l := ⟨_, rfl⟩
  rw [← hE1] at hE ⊢
  have hef : (E != 0) = true := by simpa using hE
  have HE := Lib.hid hE1
  clear hE hE1
  obtain ⟨w0, hW⟩ : ∃ W, W = ((w.alloc (Obj.cells #[.int .i64 c, .int .i64 r, .slice A n cap] 35)).alloc (Obj.cells #[.bool rows] 4)).alloc (Obj.cells #[.int .i64 0, .int .i64 0, .slice none 0 0] 35) := ⟨_, rfl⟩
  have hT0 : w0.heap[w.heap.size]? = some (.cells #[.int .i64 c, .int .i64 r, .slice A n cap] 35 (0, 0)) := by rw [hW]; exact heap_old (by simp <;> omega) (heap_old (by simp <;> omega) (heap_new (by simp)))
  have hT1 : w0.heap[w.heap.size + 1]? = some (.cells #[.bool rows] 4 (0, 0)) := by rw [hW]; exact heap_old (by simp <;> omega) (heap_new (by simp))
  have hT2 : w0.heap[w.heap.size + 1 + 1]? = some (.cells #[.int .i64 0, .int .i64 0, .slice none 0 0] 35 (0, 0)) := by rw [hW]; exact heap_new (by simp)
  have hB0 : Below w.heap.size w w0 := by rw [hW]; exact ((((Below.refl _ _).alloc (by first | omega | (simp <;> omega)) _).alloc (by first | omega | (simp <;> omega)) _).alloc (by first | omega | (simp <;> omega)) _)
  replace H := H.below hB0
  go_enter Tryz.func66, Tryz.ntmps66
  go_wp2_with fail
  rw [← hW]
  clear hW
  have qhT0_0 : w0.cell? ⟨w.heap.size, 0, none⟩ = some (.int .i64 c) := cell_at hT0 rfl
  have qhT0_1 : w0.cell? ⟨w.heap.size, 1, none⟩ = some (.int .i64 r) := cell_at hT0 rfl
  have qhT0_2 : w0.cell? ⟨w.heap.size, 2, none⟩ = some (.slice A n cap) := cell_at hT0 rfl
  have qhT1_0 : w0.cell? ⟨w.heap.size + 1, 0, none⟩ = some (.bool rows) := cell_at hT1 rfl
  have qhT2_0 : w0.cell? ⟨w.heap.size + 1 + 1, 0, none⟩ = some (.int .i64 0) := cell_at hT2 rfl
  have qhT2_1 : w0.cell? ⟨w.heap.size + 1 + 1, 1, none⟩ = some (.int .i64 0) := cell_at hT2 rfl
  have qhT2_2 : w0.cell? ⟨w.heap.size + 1 + 1, 2, none⟩ = some (.slice none 0 0) := cell_at hT2 rfl
  go_wp2_with fail
  refine (c64 c r A n cap l _ hl H).mono ?_
  rintro e w1 ⟨rfl, hb⟩
  clear qhT0_0 qhT0_1 qhT0_2 qhT1_0 qhT2_0 qhT2_1 qhT2_2
  have hS := hb
  have hB1 := hB0.call hS rfl
  replace hT0 := blkb hT0 hS
  replace hT1 := blkb hT1 hS
  replace hT2 := blkb hT2 hS
  replace H := H.below hS
  clear hS hB0
  have qhT0_0 : w1.cell? ⟨w.heap.size, 0, none⟩ = some (.int .i64 c) := cell_at hT0 rfl
  have qhT0_1 : w1.cell? ⟨w.heap.size, 1, none⟩ = some (.int .i64 r) := cell_at hT0 rfl
  have qhT0_2 : w1.cell? ⟨w.heap.size, 2, none⟩ = some (.slice A n cap) := cell_at hT0 rfl
  have qhT1_0 : w1.cell? ⟨w.heap.size + 1, 0, none⟩ = some (.bool rows) := cell_at hT1 rfl
  have qhT2_0 : w1.cell? ⟨w.heap.size + 1 + 1, 0, none⟩ = some (.int .i64 0) := cell_at hT2 rfl
  have qhT2_1 : w1.cell? ⟨w.heap.size + 1 + 1, 1, none⟩ = some (.int .i64 0) := cell_at hT2 rfl
  have qhT2_2 : w1.cell? ⟨w.heap.size + 1 + 1, 2, none⟩ = some (.slice none 0 0) := cell_at hT2 rfl
  clear hb
  rw [← HE.out]
  go_wp2_with (refine wpList_store_blk rfl 35 _ _ rfl (w.heap.size + 1 + 1) _ rfl rfl hT2 ?s1 ?s2 ?s3 ?_)
  case s1 => rfl
  case s2 => kernel_rfl
  case s3 => simp [Value.oneCell']
  intro w9 hT9 hg9 hs9
  have HB9 := Lib.hid (hB1.grown hg9 hB1.size (fun j hj => by cases hj; omega))
  clear hg9 hs9
  go_wp2
  exact bodyPost_ret (results_blk_tmp rfl rfl hT9 _ Tryz.underlying35 rfl (by kernel_rfl)) rfl ⟨rfl, HB9.out⟩

theorem c66_ok (c r : Nat) (A : Option Addr) (n cap : Nat) (l : List Int) (rows : Bool) (w : World) (g : Im.Gr c r l) (hc : c ≤ 16) (hr : r ≤ 16) (H : RdI w A n l) :
   Calls Tryz.prog 66 #[.agg #[.int .i64 c, .int .i64 r, .slice A n cap], .bool rows] w fun en w' => ∃ og, en = .returned (.tuple #[.agg #[.int .i64 c, .int .i64 r, .slice (some ⟨og, 0, none⟩) n n], .int .i64 0]) ∧ RowI w' w.heap.size og n n (Im.mirL c r l rows) ∧ Below w.heap.size w w' := by
  have hl : n ≤ 1000000 := by have := H.len; have := g.len; have : c * r ≤ 256 := Nat.mul_le_mul hc hr; omega
  obtain ⟨w0, hW⟩ : ∃ W, W = ((w.alloc (Obj.cells #[.int .i64 c, .int .i64 r, .slice A n cap] 35)).alloc (Obj.cells #[.bool rows] 4)).alloc (Obj.cells #[.int .i64 0, .int .i64 0, .slice none 0 0] 35) := ⟨_, rfl⟩
  have hT0 : w0.heap[w.heap.size]? = some (.cells #[.int .i64 c, .int .i64 r, .slice A n cap] 35 (0, 0)) := by rw [hW]; exact heap_old (by simp <;> omega) (heap_old (by simp <;> omega) (heap_new (by simp)))
  have hT1 : w0.heap[w.heap.size + 1]? = some (.cells #[.bool rows] 4 (0, 0)) := by rw [hW]; exact heap_old (by simp <;> omega) (heap_new (by simp))
  have hT2 : w0.heap[w.heap.size + 1 + 1]? = some (.cells #[.int .i64 0, .int .i64 0, .slice none 0 0] 35 (0, 0)) := by rw [hW]; exact heap_new (by simp)
  have hB0 : Below w.heap.size w w0 := by rw [hW]; exact ((((Below.refl _ _).alloc (by first | omega | (simp <;> omega)) _).alloc (by first | omega | (simp <;> omega)) _).alloc (by first | omega | (simp <;> omega)) _)
  replace H := H.below hB0
  go_enter Tryz.func66, Tryz.ntmps66
  go_wp2_with fail
  rw [← hW]
  clear hW
  have qhT0_0 : w0.cell? ⟨w.heap.size, 0, none⟩ = some (.int .i64 c) := cell_at hT0 rfl
  have qhT0_1 : w0.cell? ⟨w.heap.size, 1, none⟩ = some (.int .i64 r) := cell_at hT0 rfl
  have qhT0_2 : w0.cell? ⟨w.heap.size, 2, none⟩ = some (.slice A n cap) := cell_at hT0 rfl
  have qhT1_0 : w0.cell? ⟨w.heap.size + 1, 0, none⟩ = some (.bool rows) := cell_at hT1 rfl
  have qhT2_0 : w0.cell? ⟨w.heap.size + 1 + 1, 0, none⟩ = some (.int .i64 0) := cell_at hT2 rfl
  have qhT2_1 : w0.cell? ⟨w.heap.size + 1 + 1, 1, none⟩ = some (.int .i64 0) := cell_at hT2 rfl
  have qhT2_2 : w0.cell? ⟨w.heap.size + 1 + 1, 2, none⟩ = some (.slice none 0 0) := cell_at hT2 rfl
  go_wp2_with fail
  refine (c64 c r A n cap l _ hl H).mono ?_
  rintro e w1 ⟨rfl, hb⟩
  clear qhT0_0 qhT0_1 qhT0_2 qhT1_0 qhT2_0 qhT2_1 qhT2_2
  have hS := hb
  have hB1 := hB0.call hS rfl
  replace hT0 := blkb hT0 hS
  replace hT1 := blkb hT1 hS
  replace hT2 := blkb hT2 hS
  replace H := H.below hS
  clear hS hB0
  have qhT0_0 : w1.cell? ⟨w.heap.size, 0, none⟩ = some (.int .i64 c) := cell_at hT0 rfl
  have qhT0_1 : w1.cell? ⟨w.heap.size, 1, none⟩ = some (.int .i64 r) := cell_at hT0 rfl
  have qhT0_2 : w1.cell? ⟨w.heap.size, 2, none⟩ = some (.slice A n cap) := cell_at hT0 rfl
  have qhT1_0 : w1.cell? ⟨w.heap.size + 1, 0, none⟩ = some (.bool rows) := cell_at hT1 rfl
  have qhT2_0 : w1.cell? ⟨w.heap.size + 1 + 1, 0, none⟩ = some (.int .i64 0) := cell_at hT2 rfl
  have qhT2_1 : w1.cell? ⟨w.heap.size + 1 + 1, 1, none⟩ = some (.int .i64 0) := cell_at hT2 rfl
  have qhT2_2 : w1.cell? ⟨w.heap.size + 1 + 1, 2, none⟩ = some (.slice none 0 0) := cell_at hT2 rfl
  clear hb
  rw [Mo.ground_of g hc hr]
  have HLO := Lib.hid hB1.size
  have HRB := Lib.hid (Array.getElem?_eq_some_iff.1 hT2).1
  go_wp2_with fail
  refine (c129_m c r A n cap l rows (w.heap.size + 1) w.heap.size _ g hc hr H (cell_at hT1 rfl) hT0).mono ?_
  rintro e w2 ⟨og, rfl, hrow, hb⟩
  clear qhT0_0 qhT0_1 qhT0_2 qhT1_0 qhT2_0 qhT2_1 qhT2_2
  have hS := hb
  have hB2 := hB1.call hS rfl
  replace hT0 := blkb hT0 hS
  replace hT1 := blkb hT1 hS
  replace hT2 := blkb hT2 hS
  replace H := H.below hS
  clear hS hB1
  have qhT0_0 : w2.cell? ⟨w.heap.size, 0, none⟩ = some (.int .i64 c) := cell_at hT0 rfl
  have qhT0_1 : w2.cell? ⟨w.heap.size, 1, none⟩ = some (.int .i64 r) := cell_at hT0 rfl
  have qhT0_2 : w2.cell? ⟨w.heap.size, 2, none⟩ = some (.slice A n cap) := cell_at hT0 rfl
  have qhT1_0 : w2.cell? ⟨w.heap.size + 1, 0, none⟩ = some (.bool rows) := cell_at hT1 rfl
  have qhT2_0 : w2.cell? ⟨w.heap.size + 1 + 1, 0, none⟩ = some (.int .i64 0) := cell_at hT2 rfl
  have qhT2_1 : w2.cell? ⟨w.heap.size + 1 + 1, 1, none⟩ = some (.int .i64 0) := cell_at hT2 rfl
  have qhT2_2 : w2.cell? ⟨w.heap.size + 1 + 1, 2, none⟩ = some (.slice none 0 0) := cell_at hT2 rfl
  clear hb
  go_wp2_with (refine wpList_store_blk rfl 35 _ _ rfl (w.heap.size + 1 + 1) _ rfl rfl hT2 ?s1 ?s2 ?s3 ?_)
  case s1 => rfl
  case s2 => kernel_rfl
  case s3 => simp [Value.oneCell']
  intro w9 hT9 hg9 hs9
  have HB9 := Lib.hid (hB2.grown hg9 hB2.size (fun j hj => by cases hj; omega))
  have HR9 : Hid (RowI w9 w.heap.size og n n (Im.mirL c r l rows)) := Lib.hid (by
    obtain ⟨cs, h1, h2, h3, h4, h5, h6, h7⟩ := hrow
    have h8 := HRB.out
    have h9 := HLO.out
    exact ⟨cs, (hg9.block _ (Array.getElem?_eq_some_iff.1 h1).1 (by simp; omega)).trans h1, h2, h3, h4, h5, h6, by omega⟩)
  clear hg9 hs9
  go_wp2
  exact bodyPost_ret (results_blk_tmp rfl rfl hT9 _ Tryz.underlying35 rfl (by kernel_rfl)) rfl ⟨og, rfl, HR9.out, HB9.out⟩

theorem c67_bad (c r : Int) (A : Option Addr) (n cap : Nat) (l : List Int) (w : World) (hl : n ≤ 1000000) (H : RdI w A n l) (hE : Mo.ground c r l ≠ 0) :
   Calls Tryz.prog 67 #[.agg #[.int .i64 c, .int .i64 r, .slice A n cap]] w fun en w' => en = .returned (.tuple #[.agg #[.int .i64 0, .int .i64 0, .slice none 0 0], .int .i64 (Mo.ground c r l)]) ∧ Below w.heap.size w w' := by
  obtain ⟨E, hE1⟩ : ∃ E, E = Mo.ground c r l := ⟨_, rfl⟩
  rw [← hE1] at hE ⊢
  have hef : (E != 0) = true := by simpa using hE
  have HE := Lib.hid hE1
  clear hE hE1
  obtain ⟨w0, hW⟩ : ∃ W, W = (w.alloc (Obj.cells #[.int .i64 c, .int .i64 r, .slice A n cap] 35)).alloc (Obj.cells #[.int .i64 0, .int .i64 0, .slice none 0 0] 35) := ⟨_, rfl⟩
  have hT0 : w0.heap[w.heap.size]? = some (.cells #[.int .i64 c, .int .i64 r, .slice A n cap] 35 (0, 0)) := by rw [hW]; exact heap_old (by simp <;> omega) (heap_new (by simp))
  have hT1 : w0.heap[w.heap.size + 1]? = some (.cells #[.int .i64 0, .int .i64 0, .slice none 0 0] 35 (0, 0)) := by rw [hW]; exact heap_new (by simp)
  have hB0 : Below w.heap.size w w0 := by rw [hW]; exact (((Below.refl _ _).alloc (by first | omega | (simp <;> omega)) _).alloc (by first | omega | (simp <;> omega)) _)
  replace H := H.below hB0
  go_enter Tryz.func67, Tryz.ntmps67
  go_wp2_with fail
  rw [← hW]
  clear hW
  have qhT0_0 : w0.cell? ⟨w.heap.size, 0, none⟩ = some (.int .i64 c) := cell_at hT0 rfl
  have qhT0_1 : w0.cell? ⟨w.heap.size, 1, none⟩ = some (.int .i64 r) := cell_at hT0 rfl
  have qhT0_2 : w0.cell? ⟨w.heap.size, 2, none⟩ = some (.slice A n cap) := cell_at hT0 rfl
  have qhT1_0 : w0.cell? ⟨w.heap.size + 1, 0, none⟩ = some (.int .i64 0) := cell_at hT1 rfl
  have qhT1_1 : w0.cell? ⟨w.heap.size + 1, 1, none⟩ = some (.int .i64 0) := cell_at hT1 rfl
  have qhT1_2 : w0.cell? ⟨w.heap.size + 1, 2, none⟩ = some (.slice none 0 0) := cell_at hT1 rfl
  go_wp2_with fail
  refine (c64 c r A n cap l _ hl H).mono ?_
  rintro e w1 ⟨rfl, hb⟩
  clear qhT0_0 qhT0_1 qhT0_2 qhT1_0 qhT1_1 qhT1_2
  have hS := hb
  have hB1 := hB0.call hS rfl
  replace hT0 := blkb hT0 hS
  replace hT1 := blkb hT1 hS
  replace H := H.below hS
  clear hS hB0
  have qhT0_0 : w1.cell? ⟨w.heap.size, 0, none⟩ = some (.int .i64 c) := cell_at hT0 rfl
  have qhT0_1 : w1.cell? ⟨w.heap.size, 1, none⟩ = some (.int .i64 r) := cell_at hT0 rfl
  have qhT0_2 : w1.cell? ⟨w.heap.size, 2, none⟩ = some (.slice A n cap) := cell_at hT0 rfl
  have qhT1_0 : w1.cell? ⟨w.heap.size + 1, 0, none⟩ = some (.int .i64 0) := cell_at hT1 rfl
  have qhT1_1 : w1.cell? ⟨w.heap.size + 1, 1, none⟩ = some (.int .i64 0) := cell_at hT1 rfl
  have qhT1_2 : w1.cell? ⟨w.heap.size + 1, 2, none⟩ = some (.slice none 0 0) := cell_at hT1 rfl
  clear hb
  rw [← HE.out]
  go_wp2_with (refine wpList_store_blk rfl 35 _ _ rfl (w.heap.size + 1) _ rfl rfl hT1 ?s1 ?s2 ?s3 ?_)
  case s1 => rfl
  case s2 => kernel_rfl
  case s3 => simp [Value.oneCell']
  intro w9 hT9 hg9 hs9
  have HB9 := Lib.hid (hB1.grown hg9 hB1.size (fun j hj => by cases hj; omega))
  clear hg9 hs9
  go_wp2
  exact bodyPost_ret (results_blk_tmp rfl rfl hT9 _ Tryz.underlying35 rfl (by kernel_rfl)) rfl ⟨rfl, HB9.out⟩

theorem c67_ok (c r : Nat) (A : Option Addr) (n cap : Nat) (l : List Int) (w : World) (g : Im.Gr c r l) (hc : c ≤ 16) (hr : r ≤ 16) (H : RdI w A n l) :
   Calls Tryz.prog 67 #[.agg #[.int .i64 c, .int .i64 r, .slice A n cap]] w fun en w' => ∃ og, en = .returned (.tuple #[.agg #[.int .i64 r, .int .i64 c, .slice (some ⟨og, 0, none⟩) n n], .int .i64 0]) ∧ RowI w' w.heap.size og n n (Im.trL c r l) ∧ Below w.heap.size w w' := by
  have hl : n ≤ 1000000 := by have := H.len; have := g.len; have : c * r ≤ 256 := Nat.mul_le_mul hc hr; omega
  obtain ⟨w0, hW⟩ : ∃ W, W = (w.alloc (Obj.cells #[.int .i64 c, .int .i64 r, .slice A n cap] 35)).alloc (Obj.cells #[.int .i64 0, .int .i64 0, .slice none 0 0] 35) := ⟨_, rfl⟩
  have hT0 : w0.heap[w.heap.size]? = some (.cells #[.int .i64 c, .int .i64 r, .slice A n cap] 35 (0, 0)) := by rw [hW]; exact heap_old (by simp <;> omega) (heap_new (by simp))
  have hT1 : w0.heap[w.heap.size + 1]? = some (.cells #[.int .i64 0, .int .i64 0, .slice none 0 0] 35 (0, 0)) := by rw [hW]; exact heap_new (by simp)
  have hB0 : Below w.heap.size w w0 := by rw [hW]; exact (((Below.refl _ _).alloc (by first | omega | (simp <;> omega)) _).alloc (by first | omega | (simp <;> omega)) _)
  replace H := H.below hB0
  go_enter Tryz.func67, Tryz.ntmps67
  go_wp2_with fail
  rw [← hW]
  clear hW
  have qhT0_0 : w0.cell? ⟨w.heap.size, 0, none⟩ = some (.int .i64 c) := cell_at hT0 rfl
  have qhT0_1 : w0.cell? ⟨w.heap.size, 1, none⟩ = some (.int .i64 r) := cell_at hT0 rfl
  have qhT0_2 : w0.cell? ⟨w.heap.size, 2, none⟩ = some (.slice A n cap) := cell_at hT0 rfl
  have qhT1_0 : w0.cell? ⟨w.heap.size + 1, 0, none⟩ = some (.int .i64 0) := cell_at hT1 rfl
  have qhT1_1 : w0.cell? ⟨w.heap.size + 1, 1, none⟩ = some (.int .i64 0) := cell_at hT1 rfl
  have qhT1_2 : w0.cell? ⟨w.heap.size + 1, 2, none⟩ = some (.slice none 0 0) := cell_at hT1 rfl
  go_wp2_with fail
  refine (c64 c r A n cap l _ hl H).mono ?_
  rintro e w1 ⟨rfl, hb⟩
  clear qhT0_0 qhT0_1 qhT0_2 qhT1_0 qhT1_1 qhT1_2
  have hS := hb
  have hB1 := hB0.call hS rfl
  replace hT0 := blkb hT0 hS
  replace hT1 := blkb hT1 hS
  replace H := H.below hS
  clear hS hB0
  have qhT0_0 : w1.cell? ⟨w.heap.size, 0, none⟩ = some (.int .i64 c) := cell_at hT0 rfl
  have qhT0_1 : w1.cell? ⟨w.heap.size, 1, none⟩ = some (.int .i64 r) := cell_at hT0 rfl
  have qhT0_2 : w1.cell? ⟨w.heap.size, 2, none⟩ = some (.slice A n cap) := cell_at hT0 rfl
  have qhT1_0 : w1.cell? ⟨w.heap.size + 1, 0, none⟩ = some (.int .i64 0) := cell_at hT1 rfl
  have qhT1_1 : w1.cell? ⟨w.heap.size + 1, 1, none⟩ = some (.int .i64 0) := cell_at hT1 rfl
  have qhT1_2 : w1.cell? ⟨w.heap.size + 1, 2, none⟩ = some (.slice none 0 0) := cell_at hT1 rfl
  clear hb
  rw [Mo.ground_of g hc hr]
  have HLO := Lib.hid hB1.size
  have HRB := Lib.hid (Array.getElem?_eq_some_iff.1 hT1).1
  go_wp2_with fail
  refine (c129_t c r A n cap l w.heap.size _ g hc hr H hT0).mono ?_
  rintro e w2 ⟨og, rfl, hrow, hb⟩
  clear qhT0_0 qhT0_1 qhT0_2 qhT1_0 qhT1_1 qhT1_2
  have hS := hb
  have hB2 := hB1.call hS rfl
  replace hT0 := blkb hT0 hS
  replace hT1 := blkb hT1 hS
  replace H := H.below hS
  clear hS hB1
  have qhT0_0 : w2.cell? ⟨w.heap.size, 0, none⟩ = some (.int .i64 c) := cell_at hT0 rfl
  have qhT0_1 : w2.cell? ⟨w.heap.size, 1, none⟩ = some (.int .i64 r) := cell_at hT0 rfl
  have qhT0_2 : w2.cell? ⟨w.heap.size, 2, none⟩ = some (.slice A n cap) := cell_at hT0 rfl
  have qhT1_0 : w2.cell? ⟨w.heap.size + 1, 0, none⟩ = some (.int .i64 0) := cell_at hT1 rfl
  have qhT1_1 : w2.cell? ⟨w.heap.size + 1, 1, none⟩ = some (.int .i64 0) := cell_at hT1 rfl
  have qhT1_2 : w2.cell? ⟨w.heap.size + 1, 2, none⟩ = some (.slice none 0 0) := cell_at hT1 rfl
  clear hb
  go_wp2_with (refine wpList_store_blk rfl 35 _ _ rfl (w.heap.size + 1) _ rfl rfl hT1 ?s1 ?s2 ?s3 ?_)
  case s1 => rfl
  case s2 => kernel_rfl
  case s3 => simp [Value.oneCell']
  intro w9 hT9 hg9 hs9
  have HB9 := Lib.hid (hB2.grown hg9 hB2.size (fun j hj => by cases hj; omega))
  have HR9 : Hid (RowI w9 w.heap.size og n n (Im.trL c r l)) := Lib.hid (by
    obtain ⟨cs, h1, h2, h3, h4, h5, h6, h7⟩ := hrow
    have h8 := HRB.out
    have h9 := HLO.out
    exact ⟨cs, (hg9.block _ (Array.getElem?_eq_some_iff.1 h1).1 (by simp; omega)).trans h1, h2, h3, h4, h5, h6, by omega⟩)
  clear hg9 hs9
  go_wp2
  exact bodyPost_ret (results_blk_tmp rfl rfl hT9 _ Tryz.underlying35 rfl (by kernel_rfl)) rfl ⟨og, rfl, HR9.out, HB9.out⟩

theorem c70_eq (c r : Int) (A B : Option Addr) (n cap cap2 : Nat) (l : List Int) (w : World) (hl : n ≤ 1000000) (H : RdI w A n l) (G : RdI w B n l) :
   Calls Tryz.prog 70 #[.agg #[.int .i64 c, .int .i64 r, .slice A n cap], .agg #[.int .i64 c, .int .i64 r, .slice B n cap2]] w fun en w' => en = .returned (.bool true) ∧ Below w.heap.size w w' := by
  obtain ⟨w0, hW⟩ : ∃ W, W = (w.alloc (Obj.cells #[.int .i64 c, .int .i64 r, .slice A n cap] 24)).alloc (Obj.cells #[.int .i64 c, .int .i64 r, .slice B n cap2] 24) := ⟨_, rfl⟩
  have hT0 : w0.heap[w.heap.size]? = some (.cells #[.int .i64 c, .int .i64 r, .slice A n cap] 24 (0, 0)) := by rw [hW]; exact heap_old (by simp <;> omega) (heap_new (by simp))
  have hT1 : w0.heap[w.heap.size + 1]? = some (.cells #[.int .i64 c, .int .i64 r, .slice B n cap2] 24 (0, 0)) := by rw [hW]; exact heap_new (by simp)
  have hB0 : Below w.heap.size w w0 := by rw [hW]; exact (((Below.refl _ _).alloc (by first | omega | (simp <;> omega)) _).alloc (by first | omega | (simp <;> omega)) _)
  replace H := H.below hB0
  replace G := G.below hB0
  go_enter Tryz.func70, Tryz.ntmps70
  go_wp2_with fail
  rw [← hW]
  clear hW
  have qhT0_0 : w0.cell? ⟨w.heap.size, 0, none⟩ = some (.int .i64 c) := cell_at hT0 rfl
  have qhT0_1 : w0.cell? ⟨w.heap.size, 1, none⟩ = some (.int .i64 r) := cell_at hT0 rfl
  have qhT0_2 : w0.cell? ⟨w.heap.size, 2, none⟩ = some (.slice A n cap) := cell_at hT0 rfl
  have qhT1_0 : w0.cell? ⟨w.heap.size + 1, 0, none⟩ = some (.int .i64 c) := cell_at hT1 rfl
  have qhT1_1 : w0.cell? ⟨w.heap.size + 1, 1, none⟩ = some (.int .i64 r) := cell_at hT1 rfl
  have qhT1_2 : w0.cell? ⟨w.heap.size + 1, 2, none⟩ = some (.slice B n cap2) := cell_at hT1 rfl
  go_wp2_with fail
  refine (c30 A B n n cap cap2 l l _ hl hl H G).mono ?_
  rintro e w1 ⟨rfl, hb⟩
  clear qhT0_0 qhT0_1 qhT0_2 qhT1_0 qhT1_1 qhT1_2
  have hS := hb
  have hB1 := hB0.call hS rfl
  replace hT0 := blkb hT0 hS
  replace hT1 := blkb hT1 hS
  replace H := H.below hS
  replace G := G.below hS
  clear hS hB0
  have qhT0_0 : w1.cell? ⟨w.heap.size, 0, none⟩ = some (.int .i64 c) := cell_at hT0 rfl
  have qhT0_1 : w1.cell? ⟨w.heap.size, 1, none⟩ = some (.int .i64 r) := cell_at hT0 rfl
  have qhT0_2 : w1.cell? ⟨w.heap.size, 2, none⟩ = some (.slice A n cap) := cell_at hT0 rfl
  have qhT1_0 : w1.cell? ⟨w.heap.size + 1, 0, none⟩ = some (.int .i64 c) := cell_at hT1 rfl
  have qhT1_1 : w1.cell? ⟨w.heap.size + 1, 1, none⟩ = some (.int .i64 r) := cell_at hT1 rfl
  have qhT1_2 : w1.cell? ⟨w.heap.size + 1, 2, none⟩ = some (.slice B n cap2) := cell_at hT1 rfl
  clear hb
  have hd : decide (l = l) = true := by simp
  go_wp2
  go_ret
  exact ⟨by simp, hB1⟩

end Go.Proofs.YtdimmlljjmmdbaaGreatDoor
namespace Go.Proofs.YtdimmlljjmmdbaaGreatDoor
open Go.RowKit Go.Shelf
set_option maxHeartbeats 8000000
set_option maxRecDepth 100000
/-- own memory of the references that turn grounds -/
structure MR (w wr : World) (cc rr : Int) (G : Array Value) (v : Value) (k : Nat) (xs : List Int) : Prop where
  g : wr.heap[w.heap.size]? = some (.cells G 24 (0, 0))
  z : wr.heap[w.heap.size + 1]? = some (.cells #[.int .i64 0, .int .i64 0, .slice none 0 0] 24 (0, 0))
  s : wr.heap[w.heap.size + 1 + 1]? = some (.cells #[.int .i64 cc, .int .i64 rr, v] 24 (0, 0))
  o : Own wr (w.heap.size + 1 + 1 + 1) v k (encI xs)
  b : Below w.heap.size w wr
  n : w.heap.size + 1 + 1 + 1 ≤ wr.heap.size
theorem MR.push {w wr w5 : World} {cc rr : Int} {G : Array Value} {v v' : Value} {k : Nat} {xs : List Int} {x : Int} (h : MR w wr cc rr G v k xs) (hC : Below (w.heap.size + 1 + 1 + 1) wr w5) (ho : Own w5 (w.heap.size + 1 + 1 + 1) v' (k + 1) (encI (xs ++ [x]))) :
    MR w (w5.setCell ⟨w.heap.size + 1 + 1, 2, none⟩ v') cc rr G v' (k + 1) (xs ++ [x]) :=
  ⟨(set_far _ (by dsimp only; omega)).trans ((hC.block _ (by omega)).trans h.g), (set_far _ (by dsimp only; omega)).trans ((hC.block _ (by omega)).trans h.z),
   set_blk ((hC.block _ (by omega)).trans h.s) v',
   Own.kept ho (gb_set (grownBy_of_below (Below.refl _ _) _)) (by omega),
   (h.b.trans (hC.mono (by omega))).setCell (p := ⟨w.heap.size + 1 + 1, 2, none⟩) (by show _ ≤ w.heap.size + 1 + 1; omega) _,
   by have := hC.size; have := h.n; simp; omega⟩
theorem MR.below {w wr w5 : World} {cc rr : Int} {G : Array Value} {v : Value} {k : Nat} {xs : List Int} (h : MR w wr cc rr G v k xs) (hb : Below wr.heap.size wr w5) : MR w w5 cc rr G v k xs :=
  ⟨blkb h.g hb, blkb h.z hb, blkb h.s hb, h.o.below hb, h.b.call hb rfl, Nat.le_trans h.n hb.size⟩
theorem take_push {LL : List Int} {k : Nat} (h : k < LL.length) : LL.take k ++ [Im.at0 LL k] = LL.take (k + 1) := by
  rw [List.take_add_one, List.getElem?_eq_getElem h]
  simp [Im.at0, List.getD_eq_getElem?_getD, h]
theorem rd1x (w : World) (a : Int) : RdI (w.alloc (Obj.cells #[.int .i64 a] 3)) (some ⟨w.heap.size, 0, none⟩) 1 [a] := RdS.of_new (cs := encI [a]) rfl rfl
theorem ownC {w w' : World} {B : Nat} {v : Value} {k : Nat} {xs : List Value} (h : Own w B v k xs) (hC : Below w.heap.size w w') : Own w' B v k xs := h.below hC

theorem c68 (c r : Nat) (A : Option Addr) (n cap : Nat) (l : List Int) (rows : Bool) (w : World) (g : Im.Gr c r l) (hc : c ≤ 16) (hr : r ≤ 16) (H : RdI w A n l) :
   Calls Tryz.prog 68 #[.agg #[.int .i64 c, .int .i64 r, .slice A n cap], .bool rows] w fun en w' => ∃ B cb, en = .returned (.agg #[.int .i64 c, .int .i64 r, .slice B n cb]) ∧ Own w' w.heap.size (.slice B n cb) n (encI (Im.mirL c r l rows)) ∧ Below w.heap.size w w' := by
  have hln := H.len
  have hlr := g.len
  have hc1 := g.c1
  have hr1 := g.r1
  have hn256 : n ≤ 256 := by have : c * r ≤ 256 := Nat.mul_le_mul hc hr; omega
  have hn0 : 0 < n := by rw [← hln, hlr]; exact Nat.mul_pos hc1 hr1
  have HN : Hid (n = r * c) := Lib.hid (by rw [← hln, hlr, Nat.mul_comm])
  obtain ⟨ab, ao, rfl, zab⟩ := H.form hn0
  have HLL : Hid ((Im.mirL c r l rows).length = n) := Lib.hid (by rw [Im.mirL_len]; omega)
  have HAT : Hid (∀ x y, x < c → y < r → Im.at0 (Im.mirL c r l rows) (y * c + x) = Im.at0 l (Im.mirI c r rows x y) ∧ (Im.mirI c r rows x y) < n ∧ y * c + x < n) := Lib.hid (fun x y hx hy => by
    obtain ⟨h1, h2, h3⟩ := Im.cell_mk (c := c) (r := r) hx hy
    have hkc : y * c + x < c * r := by exact h1
    refine ⟨(Im.at0_map_range _ _ _ hkc).trans ?_, ?_, by omega⟩
    · rw [h2, h3]; unfold Im.mirI; cases rows <;> rfl
    · rw [← hln, hlr]; exact mir_lt hx hy)
  obtain ⟨LL, hLL⟩ : ∃ L, L = Im.mirL c r l rows := ⟨_, rfl⟩
  rw [← hLL] at HLL HAT ⊢
  clear hLL
  obtain ⟨w1, hW⟩ : ∃ W, W = ((w.alloc (Obj.cells #[.int .i64 c, .int .i64 r, .slice (some ⟨ab, ao, none⟩) n cap] 24)).alloc (Obj.cells #[.int .i64 0, .int .i64 0, .slice none 0 0] 24)).alloc (Obj.cells #[.int .i64 c, .int .i64 r, .slice none 0 0] 24) := ⟨_, rfl⟩
  have HM0 : Hid (MR w w1 c r #[.int .i64 c, .int .i64 r, .slice (some ⟨ab, ao, none⟩) n cap] (.slice none 0 0) (0 * c + 0) (LL.take (0 * c + 0))) := Lib.hid (by
    rw [Nat.zero_mul, Nat.add_zero, List.take_zero]
    refine ⟨?_, ?_, ?_, World.ownsRow_nil _ _ _ _, ?_, ?_⟩
    · rw [hW]; exact heap_old (by simp <;> omega) (heap_old (by simp <;> omega) (heap_new rfl))
    · rw [hW]; exact heap_old (by simp <;> omega) (heap_new (by simp))
    · rw [hW]; exact heap_new (by simp)
    · rw [hW]; exact (below2 _ _ _).alloc (by simp <;> omega) _
    · rw [hW]; simp)
  have HH := Lib.hid H
  clear H
  go_enter Tryz.func68, Tryz.ntmps68
  go_wp2_with fail
  rw [← hW]
  clear hW
  go_loopw [6] (fun i wr => ∃ (y : Nat) (v : Value), y ≤ r ∧ i = .int .i64 y ∧ Hid (MR w wr c r #[.int .i64 c, .int .i64 r, .slice (some ⟨ab, ao, none⟩) n cap] v (y * c + 0) (LL.take (y * c + 0)))) (fun i _ => r - (intOf i).toNat)
  case atStart => exact ⟨0, _, Nat.zero_le _, rfl, HM0⟩
  case round =>
    clear HM0
    obtain ⟨y, v, hy, rfl, HM⟩ := hrel
    have hwy : IntKind.i64.wrap ((y : Int) + 1) = ((y + 1 : Nat) : Int) := by rw [wrapI (by omega)]; simp
    have qg0 : wr.cell? ⟨w.heap.size, 0, none⟩ = some (.int .i64 c) := cell_at HM.out.g rfl
    have qg1 : wr.cell? ⟨w.heap.size, 1, none⟩ = some (.int .i64 r) := cell_at HM.out.g rfl
    have qs0 : wr.cell? ⟨w.heap.size + 1 + 1, 0, none⟩ = some (.int .i64 c) := cell_at HM.out.s rfl
    have qs1 : wr.cell? ⟨w.heap.size + 1 + 1, 1, none⟩ = some (.int .i64 r) := cell_at HM.out.s rfl
    have qs2 : wr.cell? ⟨w.heap.size + 1 + 1, 2, none⟩ = some v := cell_at HM.out.s rfl
    have zg := cell_lt qg0
    have zs := cell_lt qs0
    by_cases hlt : y < r
    rotate_left
    · obtain rfl : r = y := by omega
      have HOW : Hid (Own wr (w.heap.size + 1 + 1 + 1) v n (encI LL)) := Lib.hid (by
        have h := HM.out.o
        rw [Nat.add_zero, ← HN.out, List.take_of_length_le (by rw [HLL.out]; exact Nat.le_refl _)] at h
        exact h)
      obtain ⟨B, cb, rfl, hrd⟩ := Sl.of_own HOW.out
      have HRD : Hid (RdI wr B n LL) := Lib.hid hrd
      have hZ := HM.out.z
      clear hrd
      go_wp2_with (refine wpList_store_blk rfl 24 _ _ rfl (w.heap.size + 1) _ rfl rfl hZ ?s1 ?s2 ?s3 ?_)
      case s1 => rfl
      case s2 => kernel_rfl
      case s3 => simp [Value.oneCell']
      intro w4 hT4 hg4 hs4
      have HB4 : Hid (Below w.heap.size w w4) := Lib.hid (HM.out.b.grown hg4 HM.out.b.size (fun j hj => by cases hj; omega))
      have HR4 : Hid (Own w4 w.heap.size (.slice B n cb) n (encI LL)) := Lib.hid (own_lower (HOW.out.kept hg4 (by omega)) (by omega))
      clear hg4 hs4 hZ qg0 qg1 qs0 qs1 qs2 zg zs
      have c0 := cell_at (i := 0) hT4 rfl
      have c1 := cell_at (i := 1) hT4 rfl
      have c2 := cell_at (i := 2) hT4 rfl
      go_wp2
      exact bodyPost_ret (results_blk rfl rfl hT4 _ Tryz.underlying24 rfl (by kernel_rfl)) rfl ⟨B, cb, rfl, HR4.out, HB4.out⟩
    have hy2 : (y : Int) < (r : Int) := by omega
    go_wp2_with fail
    clear qg0 qg1 qs0 qs1 qs2 zg zs
    go_loopw [7] (fun i wr => ∃ (x : Nat) (v : Value), x ≤ c ∧ i = .int .i64 x ∧ Hid (MR w wr c r #[.int .i64 c, .int .i64 r, .slice (some ⟨ab, ao, none⟩) n cap] v (y * c + x) (LL.take (y * c + x)))) (fun i _ => c - (intOf i).toNat)
    case atStart => exact ⟨0, _, Nat.zero_le _, rfl, HM⟩
    case round =>
      clear HM
      obtain ⟨x, v, hx, rfl, HM⟩ := hrel
      have hwx : IntKind.i64.wrap ((x : Int) + 1) = ((x + 1 : Nat) : Int) := by rw [wrapI (by omega)]; simp
      have qg0 : wr.cell? ⟨w.heap.size, 0, none⟩ = some (.int .i64 c) := cell_at HM.out.g rfl
      have qg1 : wr.cell? ⟨w.heap.size, 1, none⟩ = some (.int .i64 r) := cell_at HM.out.g rfl
      have qg2 : wr.cell? ⟨w.heap.size, 2, none⟩ = some (.slice (some ⟨ab, ao, none⟩) n cap) := cell_at HM.out.g rfl
      have qs0 : wr.cell? ⟨w.heap.size + 1 + 1, 0, none⟩ = some (.int .i64 c) := cell_at HM.out.s rfl
      have qs2 : wr.cell? ⟨w.heap.size + 1 + 1, 2, none⟩ = some v := cell_at HM.out.s rfl
      have zg := cell_lt qg0
      have zs := cell_lt qs0
      by_cases hlx : x < c
      rotate_left
      · obtain rfl : c = x := by omega
        have HM2 : Hid (MR w wr c r #[.int .i64 c, .int .i64 r, .slice (some ⟨ab, ao, none⟩) n cap] v ((y + 1) * c + 0) (LL.take ((y + 1) * c + 0))) := Lib.hid (by
          rw [Nat.add_mul, Nat.one_mul, Nat.add_zero]; exact HM.out)
        clear HM
        go_wp2
        go_roundw
        case rel => exact ⟨y + 1, v, by omega, by go_num, HM2⟩
        case measure => simp [intOf]; omega
      have hx2 : (x : Int) < (c : Int) := by omega
      obtain ⟨hat, hjn, hkn⟩ := HAT.out x y hlx hlt
      have HTK := Lib.hid (take_push (LL := LL) (k := y * c + x) (by rw [HLL.out]; exact hkn))
      rw [hat] at HTK
      generalize hK : y * c + x = k at HM HTK hkn
      have HKK := Lib.hid hK
      clear hK hat
      obtain ⟨p, hp⟩ : ∃ p, p = y * c := ⟨_, rfl⟩
      have hpb : p ≤ 16 * 16 := by rw [hp]; exact Nat.mul_le_mul (by omega) hc
      have hpc : (y : Int) * (c : Int) = (p : Int) := by rw [hp]; simp
      obtain ⟨u1, hu1⟩ : ∃ u, u = p + c := ⟨_, rfl⟩
      obtain ⟨u2, hu2⟩ : ∃ v, v = p + c - 1 := ⟨_, rfl⟩
      obtain ⟨u3, hu3⟩ : ∃ k, k = p + c - 1 - x := ⟨_, rfl⟩
      have e1 : IntKind.i64.wrap ((y : Int) * (c : Int)) = (p : Int) := by rw [hpc]; exact wrapI (by omega)
      have e2 : IntKind.i64.wrap ((p : Int) + (c : Int)) = (u1 : Int) := by rw [wrapI (by omega)]; omega
      have e3 : IntKind.i64.wrap ((u1 : Int) - 1) = (u2 : Int) := by rw [wrapI (by omega)]; omega
      have e4 : IntKind.i64.wrap ((u2 : Int) - (x : Int)) = (u3 : Int) := by rw [wrapI (by omega)]; omega
      obtain ⟨q, hq⟩ : ∃ q, q = r - 1 - y := ⟨_, rfl⟩
      obtain ⟨p2, hp2⟩ : ∃ p, p = q * c := ⟨_, rfl⟩
      have hpb2 : p2 ≤ 16 * 16 := by rw [hp2]; exact Nat.mul_le_mul (by omega) hc
      have hpc2 : (q : Int) * (c : Int) = (p2 : Int) := by rw [hp2]; simp
      obtain ⟨u4, hu4⟩ : ∃ u, u = r - 1 := ⟨_, rfl⟩
      obtain ⟨u5, hu5⟩ : ∃ k, k = p2 + x := ⟨_, rfl⟩
      have e5 : IntKind.i64.wrap ((r : Int) - 1) = (u4 : Int) := by rw [wrapI (by omega)]; omega
      have e6 : IntKind.i64.wrap ((u4 : Int) - (y : Int)) = (q : Int) := by rw [wrapI (by omega)]; omega
      have e7 : IntKind.i64.wrap ((q : Int) * (c : Int)) = (p2 : Int) := by rw [hpc2]; exact wrapI (by omega)
      have e8 : IntKind.i64.wrap ((p2 : Int) + (x : Int)) = (u5 : Int) := by rw [wrapI (by omega)]; omega
      have HJ : Hid (Im.mirI c r rows x y = if rows then u5 else u3) := Lib.hid (by unfold Im.mirI; rw [hu5, hu3, hp2, hq, hp])
      clear hp hpb hpc hu1 hu2 hu3 hq hp2 hpb2 hpc2 hu4 hu5
      generalize Im.mirI c r rows x y = j at hjn HTK HJ
      cases rows
      · have hj0 := HJ.out
        simp only [if_true, if_false, Bool.false_eq_true] at hj0
        subst hj0
        clear HJ
        obtain ⟨VA, vc, rfl⟩ := own_slice HM.out.o
        have hjn2 : (j : Int) < (n : Int) := by omega
        have hj0 : (0 : Int) ≤ (j : Int) := by omega
        have qx := (HH.out.below HM.out.b).get hjn
        have zx := Nat.lt_of_lt_of_le zab HM.out.b.size
        have HSB : Hid (w.heap.size < w.heap.size + 1 + 1 + 1 ∧ w.heap.size + 1 + 1 < w.heap.size + 1 + 1 + 1 ∧ ab < w.heap.size + 1 + 1 + 1) := Lib.hid (by omega)
        generalize Im.at0 l j = e at HTK qx
        obtain ⟨B3, hB3⟩ : ∃ b, b = w.heap.size + 1 + 1 + 1 := ⟨_, rfl⟩
        have zb1 : w.heap.size < B3 := by omega
        have zb2 : w.heap.size + 1 + 1 < B3 := by omega
        have zb3 : ab < B3 := by omega
        have zb4 : B3 ≤ wr.heap.size := by rw [hB3]; exact HM.out.n
        go_wp2_with fail
        refine wp_region_planL [(0, true), (1, true), (2, true), (3, true), (4, true), (5, true), (6, true), (7, false), (8, false), (9, true)] B3 10 (by kernel_rfl) (by kernel_rfl) zb4 (fun _ _ d _ _ h => by cases d <;> exact h) ?_
        have hC : Below B3 wr wr := Below.refl _ _
        repeat (first | (refine wpPlanLA_skip _ rfl (by rfl) ?_; simp only [Act.put, List.setIfInBounds_toArray, List.set_cons_zero, List.set_cons_succ]) | (refine wpPlanLA_soft _ ?_ rfl (by rfl) ?_ ?_; rotate_left; (intro wq hq hcq; have hz := (hcq _ _ zb3).trans qx; go_simp; first | exact rfl | exact ⟨rfl, rfl⟩); simp only [Act.put, List.setIfInBounds_toArray, List.set_cons_zero, List.set_cons_succ]))
        refine wpPlanLA_hard _ rfl (by rfl) (fun w3 hS K hK => ?_)
        replace hC := hC.trans (hS.mono zb4)
        have hD := hS
        clear hS
        go_simp
        have hz3 : B3 ≤ w3.heap.size := Nat.le_trans zb4 hC.size
        refine hK _ _ (hC.alloc hz3 _) ?_
        clear hK K
        have hrd := (rd1x w3 e)
        have hC4 := hC.alloc hz3 (Obj.cells #[.int .i64 e] 3)
        have hD4 := hD.alloc hD.size (Obj.cells #[.int .i64 e] 3)
        clear hD
        generalize w3.alloc (Obj.cells #[.int .i64 e] 3) = w4 at hrd hC4 hD4 ⊢
        clear hC hz3
        generalize w3.heap.size = g3 at hrd ⊢
        try simp only [Act.put, List.setIfInBounds_toArray, List.set_cons_zero, List.set_cons_succ]
        refine wpPlanLA_hard _ rfl (by rfl) (fun w5 hS K hK => ?_)
        have hz4 : B3 ≤ w4.heap.size := Nat.le_trans zb4 hC4.size
        replace hC4 := hC4.trans (hS.mono hz4)
        replace hrd := hrd.below hS
        replace hD4 := hD4.call hS rfl
        clear hS hz4
        have hz5 : B3 ≤ w5.heap.size := Nat.le_trans zb4 hC4.size
        have hown : Own w5 B3 (.slice VA k vc) k (encI (LL.take k)) := by rw [hB3]; exact ownC HM.out.o hD4
        refine wp_app_ints _ _ rfl B3 (.slice VA k vc) k (LL.take k) [e] rfl hown (some ⟨g3, 0, none⟩) 1 1 rfl hrd (by omega) hz5 ?_
        intro v' w6 ho6 hb6
        obtain ⟨VB, vb, rfl⟩ := own_slice ho6
        refine hK _ _ (hC4.trans hb6) ?_
        clear hK K hown hrd hD4
        try simp only [Act.put, List.setIfInBounds_toArray, List.set_cons_zero, List.set_cons_succ]
        repeat (first | (refine wpPlanLA_skip _ rfl (by rfl) ?_; simp only [Act.put, List.setIfInBounds_toArray, List.set_cons_zero, List.set_cons_succ]) | (refine wpPlanLA_soft _ ?_ rfl (by rfl) ?_ ?_; rotate_left; (intro wq hq hcq; have hz := (hcq _ _ zb3).trans qx; go_simp; first | exact rfl | exact ⟨rfl, rfl⟩); simp only [Act.put, List.setIfInBounds_toArray, List.set_cons_zero, List.set_cons_succ]))
        refine wpPlanLA_last _ rfl (by rfl) (fun w7 hS7 K hK => ?_)
        have hC7 := (hC4.trans hb6).trans (hS7.mono (Nat.le_trans hz5 hb6.size))
        have ho7 := ho6.below hS7
        have qc : w7.cell? ⟨w.heap.size + 1 + 1, 2, none⟩ = some (.slice VA k vc) := cell_at ((hC7.block _ zb2).trans HM.out.s) rfl
        have qf : w7.frozen? ⟨w.heap.size + 1 + 1, 2, none⟩ = false := free_at ((hC7.block _ zb2).trans HM.out.s)
        have zq := cell_lt qc
        have HM8 := Lib.hid (HM.out.push (by rw [← hB3]; exact hC7) (by rw [← hB3]; exact ho7))
        rw [HTK.out] at HM8
        clear hS7 hC4 hb6 ho6 hC7 ho7 qx zx qg0 qg1 qg2 qs0 qs2 zg zs HM hz5
        go_simp
        refine hK _ _ (fun w8 hS8 => ?_)
        clear hK K
        have HM9 := Lib.hid (HM8.out.below hS8)
        clear hS8 qc qf zq HM8
        have HK2 : Hid (y * c + (x + 1) = k + 1) := Lib.hid (by have := HKK.out; omega)
        go_wp2
        go_roundw
        case rel => exact ⟨x + 1, _, by omega, by go_num, by rw [HK2.out]; exact HM9⟩
        case measure => simp [intOf]; omega
      · have hj0 := HJ.out
        simp only [if_true, if_false, Bool.false_eq_true] at hj0
        subst hj0
        clear HJ
        obtain ⟨VA, vc, rfl⟩ := own_slice HM.out.o
        have hjn2 : (j : Int) < (n : Int) := by omega
        have hj0 : (0 : Int) ≤ (j : Int) := by omega
        have qx := (HH.out.below HM.out.b).get hjn
        have zx := Nat.lt_of_lt_of_le zab HM.out.b.size
        have HSB : Hid (w.heap.size < w.heap.size + 1 + 1 + 1 ∧ w.heap.size + 1 + 1 < w.heap.size + 1 + 1 + 1 ∧ ab < w.heap.size + 1 + 1 + 1) := Lib.hid (by omega)
        generalize Im.at0 l j = e at HTK qx
        obtain ⟨B3, hB3⟩ : ∃ b, b = w.heap.size + 1 + 1 + 1 := ⟨_, rfl⟩
        have zb1 : w.heap.size < B3 := by omega
        have zb2 : w.heap.size + 1 + 1 < B3 := by omega
        have zb3 : ab < B3 := by omega
        have zb4 : B3 ≤ wr.heap.size := by rw [hB3]; exact HM.out.n
        go_wp2_with fail
        refine wp_region_planL [(0, true), (1, true), (2, true), (3, true), (4, true), (5, true), (6, true), (7, false), (8, false), (9, true)] B3 10 (by kernel_rfl) (by kernel_rfl) zb4 (fun _ _ d _ _ h => by cases d <;> exact h) ?_
        have hC : Below B3 wr wr := Below.refl _ _
        repeat (first | (refine wpPlanLA_skip _ rfl (by rfl) ?_; simp only [Act.put, List.setIfInBounds_toArray, List.set_cons_zero, List.set_cons_succ]) | (refine wpPlanLA_soft _ ?_ rfl (by rfl) ?_ ?_; rotate_left; (intro wq hq hcq; have hz := (hcq _ _ zb3).trans qx; go_simp; first | exact rfl | exact ⟨rfl, rfl⟩); simp only [Act.put, List.setIfInBounds_toArray, List.set_cons_zero, List.set_cons_succ]))
        refine wpPlanLA_hard _ rfl (by rfl) (fun w3 hS K hK => ?_)
        replace hC := hC.trans (hS.mono zb4)
        have hD := hS
        clear hS
        go_simp
        have hz3 : B3 ≤ w3.heap.size := Nat.le_trans zb4 hC.size
        refine hK _ _ (hC.alloc hz3 _) ?_
        clear hK K
        have hrd := (rd1x w3 e)
        have hC4 := hC.alloc hz3 (Obj.cells #[.int .i64 e] 3)
        have hD4 := hD.alloc hD.size (Obj.cells #[.int .i64 e] 3)
        clear hD
        generalize w3.alloc (Obj.cells #[.int .i64 e] 3) = w4 at hrd hC4 hD4 ⊢
        clear hC hz3
        generalize w3.heap.size = g3 at hrd ⊢
        try simp only [Act.put, List.setIfInBounds_toArray, List.set_cons_zero, List.set_cons_succ]
        refine wpPlanLA_hard _ rfl (by rfl) (fun w5 hS K hK => ?_)
        have hz4 : B3 ≤ w4.heap.size := Nat.le_trans zb4 hC4.size
        replace hC4 := hC4.trans (hS.mono hz4)
        replace hrd := hrd.below hS
        replace hD4 := hD4.call hS rfl
        clear hS hz4
        have hz5 : B3 ≤ w5.heap.size := Nat.le_trans zb4 hC4.size
        have hown : Own w5 B3 (.slice VA k vc) k (encI (LL.take k)) := by rw [hB3]; exact ownC HM.out.o hD4
        refine wp_app_ints _ _ rfl B3 (.slice VA k vc) k (LL.take k) [e] rfl hown (some ⟨g3, 0, none⟩) 1 1 rfl hrd (by omega) hz5 ?_
        intro v' w6 ho6 hb6
        obtain ⟨VB, vb, rfl⟩ := own_slice ho6
        refine hK _ _ (hC4.trans hb6) ?_
        clear hK K hown hrd hD4
        try simp only [Act.put, List.setIfInBounds_toArray, List.set_cons_zero, List.set_cons_succ]
        repeat (first | (refine wpPlanLA_skip _ rfl (by rfl) ?_; simp only [Act.put, List.setIfInBounds_toArray, List.set_cons_zero, List.set_cons_succ]) | (refine wpPlanLA_soft _ ?_ rfl (by rfl) ?_ ?_; rotate_left; (intro wq hq hcq; have hz := (hcq _ _ zb3).trans qx; go_simp; first | exact rfl | exact ⟨rfl, rfl⟩); simp only [Act.put, List.setIfInBounds_toArray, List.set_cons_zero, List.set_cons_succ]))
        refine wpPlanLA_last _ rfl (by rfl) (fun w7 hS7 K hK => ?_)
        have hC7 := (hC4.trans hb6).trans (hS7.mono (Nat.le_trans hz5 hb6.size))
        have ho7 := ho6.below hS7
        have qc : w7.cell? ⟨w.heap.size + 1 + 1, 2, none⟩ = some (.slice VA k vc) := cell_at ((hC7.block _ zb2).trans HM.out.s) rfl
        have qf : w7.frozen? ⟨w.heap.size + 1 + 1, 2, none⟩ = false := free_at ((hC7.block _ zb2).trans HM.out.s)
        have zq := cell_lt qc
        have HM8 := Lib.hid (HM.out.push (by rw [← hB3]; exact hC7) (by rw [← hB3]; exact ho7))
        rw [HTK.out] at HM8
        clear hS7 hC4 hb6 ho6 hC7 ho7 qx zx qg0 qg1 qg2 qs0 qs2 zg zs HM hz5
        go_simp
        refine hK _ _ (fun w8 hS8 => ?_)
        clear hK K
        have HM9 := Lib.hid (HM8.out.below hS8)
        clear hS8 qc qf zq HM8
        have HK2 : Hid (y * c + (x + 1) = k + 1) := Lib.hid (by have := HKK.out; omega)
        go_wp2
        go_roundw
        case rel => exact ⟨x + 1, _, by omega, by go_num, by rw [HK2.out]; exact HM9⟩
        case measure => simp [intOf]; omega

theorem c69 (c r : Nat) (A : Option Addr) (n cap : Nat) (l : List Int) (w : World) (g : Im.Gr c r l) (hc : c ≤ 16) (hr : r ≤ 16) (H : RdI w A n l) :
   Calls Tryz.prog 69 #[.agg #[.int .i64 c, .int .i64 r, .slice A n cap]] w fun en w' => ∃ B cb, en = .returned (.agg #[.int .i64 r, .int .i64 c, .slice B n cb]) ∧ Own w' w.heap.size (.slice B n cb) n (encI (Im.trL c r l)) ∧ Below w.heap.size w w' := by
  have hln := H.len
  have hlr := g.len
  have hc1 := g.c1
  have hr1 := g.r1
  have hn256 : n ≤ 256 := by have : c * r ≤ 256 := Nat.mul_le_mul hc hr; omega
  have hn0 : 0 < n := by rw [← hln, hlr]; exact Nat.mul_pos hc1 hr1
  have HN : Hid (n = c * r) := Lib.hid (by rw [← hln, hlr])
  obtain ⟨ab, ao, rfl, zab⟩ := H.form hn0
  have HLL : Hid ((Im.trL c r l).length = n) := Lib.hid (by rw [Im.trL_len]; omega)
  have HAT : Hid (∀ x y, x < r → y < c → Im.at0 (Im.trL c r l) (y * r + x) = Im.at0 l (x * c + y) ∧ (x * c + y) < n ∧ y * r + x < n) := Lib.hid (fun x y hx hy => by
    obtain ⟨h1, h2, h3⟩ := Im.cell_mk (c := r) (r := c) hx hy
    have hkc : y * r + x < c * r := by rw [Nat.mul_comm c r]; exact h1
    refine ⟨(Im.at0_map_range _ _ _ hkc).trans ?_, ?_, by omega⟩
    · rw [h2, h3]
    · rw [← hln, hlr]; exact tr_lt hx hy)
  obtain ⟨LL, hLL⟩ : ∃ L, L = Im.trL c r l := ⟨_, rfl⟩
  rw [← hLL] at HLL HAT ⊢
  clear hLL
  obtain ⟨w1, hW⟩ : ∃ W, W = ((w.alloc (Obj.cells #[.int .i64 c, .int .i64 r, .slice (some ⟨ab, ao, none⟩) n cap] 24)).alloc (Obj.cells #[.int .i64 0, .int .i64 0, .slice none 0 0] 24)).alloc (Obj.cells #[.int .i64 r, .int .i64 c, .slice none 0 0] 24) := ⟨_, rfl⟩
  have HM0 : Hid (MR w w1 r c #[.int .i64 c, .int .i64 r, .slice (some ⟨ab, ao, none⟩) n cap] (.slice none 0 0) (0 * r + 0) (LL.take (0 * r + 0))) := Lib.hid (by
    rw [Nat.zero_mul, Nat.add_zero, List.take_zero]
    refine ⟨?_, ?_, ?_, World.ownsRow_nil _ _ _ _, ?_, ?_⟩
    · rw [hW]; exact heap_old (by simp <;> omega) (heap_old (by simp <;> omega) (heap_new rfl))
    · rw [hW]; exact heap_old (by simp <;> omega) (heap_new (by simp))
    · rw [hW]; exact heap_new (by simp)
    · rw [hW]; exact (below2 _ _ _).alloc (by simp <;> omega) _
    · rw [hW]; simp)
  have HH := Lib.hid H
  clear H
  go_enter Tryz.func69, Tryz.ntmps69
  go_wp2_with fail
  rw [← hW]
  clear hW
  go_loopw [4] (fun i wr => ∃ (y : Nat) (v : Value), y ≤ c ∧ i = .int .i64 y ∧ Hid (MR w wr r c #[.int .i64 c, .int .i64 r, .slice (some ⟨ab, ao, none⟩) n cap] v (y * r + 0) (LL.take (y * r + 0)))) (fun i _ => c - (intOf i).toNat)
  case atStart => exact ⟨0, _, Nat.zero_le _, rfl, HM0⟩
  case round =>
    clear HM0
    obtain ⟨y, v, hy, rfl, HM⟩ := hrel
    have hwy : IntKind.i64.wrap ((y : Int) + 1) = ((y + 1 : Nat) : Int) := by rw [wrapI (by omega)]; simp
    have qg0 : wr.cell? ⟨w.heap.size, 0, none⟩ = some (.int .i64 c) := cell_at HM.out.g rfl
    have qg1 : wr.cell? ⟨w.heap.size, 1, none⟩ = some (.int .i64 r) := cell_at HM.out.g rfl
    have qs0 : wr.cell? ⟨w.heap.size + 1 + 1, 0, none⟩ = some (.int .i64 r) := cell_at HM.out.s rfl
    have qs1 : wr.cell? ⟨w.heap.size + 1 + 1, 1, none⟩ = some (.int .i64 c) := cell_at HM.out.s rfl
    have qs2 : wr.cell? ⟨w.heap.size + 1 + 1, 2, none⟩ = some v := cell_at HM.out.s rfl
    have zg := cell_lt qg0
    have zs := cell_lt qs0
    by_cases hlt : y < c
    rotate_left
    · obtain rfl : c = y := by omega
      have HOW : Hid (Own wr (w.heap.size + 1 + 1 + 1) v n (encI LL)) := Lib.hid (by
        have h := HM.out.o
        rw [Nat.add_zero, ← HN.out, List.take_of_length_le (by rw [HLL.out]; exact Nat.le_refl _)] at h
        exact h)
      obtain ⟨B, cb, rfl, hrd⟩ := Sl.of_own HOW.out
      have HRD : Hid (RdI wr B n LL) := Lib.hid hrd
      have hZ := HM.out.z
      clear hrd
      go_wp2_with (refine wpList_store_blk rfl 24 _ _ rfl (w.heap.size + 1) _ rfl rfl hZ ?s1 ?s2 ?s3 ?_)
      case s1 => rfl
      case s2 => kernel_rfl
      case s3 => simp [Value.oneCell']
      intro w4 hT4 hg4 hs4
      have HB4 : Hid (Below w.heap.size w w4) := Lib.hid (HM.out.b.grown hg4 HM.out.b.size (fun j hj => by cases hj; omega))
      have HR4 : Hid (Own w4 w.heap.size (.slice B n cb) n (encI LL)) := Lib.hid (own_lower (HOW.out.kept hg4 (by omega)) (by omega))
      clear hg4 hs4 hZ qg0 qg1 qs0 qs1 qs2 zg zs
      have c0 := cell_at (i := 0) hT4 rfl
      have c1 := cell_at (i := 1) hT4 rfl
      have c2 := cell_at (i := 2) hT4 rfl
      go_wp2
      exact bodyPost_ret (results_blk rfl rfl hT4 _ Tryz.underlying24 rfl (by kernel_rfl)) rfl ⟨B, cb, rfl, HR4.out, HB4.out⟩
    have hy2 : (y : Int) < (c : Int) := by omega
    go_wp2_with fail
    clear qg0 qg1 qs0 qs1 qs2 zg zs
    go_loopw [5] (fun i wr => ∃ (x : Nat) (v : Value), x ≤ r ∧ i = .int .i64 x ∧ Hid (MR w wr r c #[.int .i64 c, .int .i64 r, .slice (some ⟨ab, ao, none⟩) n cap] v (y * r + x) (LL.take (y * r + x)))) (fun i _ => r - (intOf i).toNat)
    case atStart => exact ⟨0, _, Nat.zero_le _, rfl, HM⟩
    case round =>
      clear HM
      obtain ⟨x, v, hx, rfl, HM⟩ := hrel
      have hwx : IntKind.i64.wrap ((x : Int) + 1) = ((x + 1 : Nat) : Int) := by rw [wrapI (by omega)]; simp
      have qg0 : wr.cell? ⟨w.heap.size, 0, none⟩ = some (.int .i64 c) := cell_at HM.out.g rfl
      have qg1 : wr.cell? ⟨w.heap.size, 1, none⟩ = some (.int .i64 r) := cell_at HM.out.g rfl
      have qg2 : wr.cell? ⟨w.heap.size, 2, none⟩ = some (.slice (some ⟨ab, ao, none⟩) n cap) := cell_at HM.out.g rfl
      have qs0 : wr.cell? ⟨w.heap.size + 1 + 1, 0, none⟩ = some (.int .i64 r) := cell_at HM.out.s rfl
      have qs2 : wr.cell? ⟨w.heap.size + 1 + 1, 2, none⟩ = some v := cell_at HM.out.s rfl
      have zg := cell_lt qg0
      have zs := cell_lt qs0
      by_cases hlx : x < r
      rotate_left
      · obtain rfl : r = x := by omega
        have HM2 : Hid (MR w wr r c #[.int .i64 c, .int .i64 r, .slice (some ⟨ab, ao, none⟩) n cap] v ((y + 1) * r + 0) (LL.take ((y + 1) * r + 0))) := Lib.hid (by
          rw [Nat.add_mul, Nat.one_mul, Nat.add_zero]; exact HM.out)
        clear HM
        go_wp2
        go_roundw
        case rel => exact ⟨y + 1, v, by omega, by go_num, HM2⟩
        case measure => simp [intOf]; omega
      have hx2 : (x : Int) < (r : Int) := by omega
      obtain ⟨hat, hjn, hkn⟩ := HAT.out x y hlx hlt
      have HTK := Lib.hid (take_push (LL := LL) (k := y * r + x) (by rw [HLL.out]; exact hkn))
      rw [hat] at HTK
      generalize hK : y * r + x = k at HM HTK hkn
      have HKK := Lib.hid hK
      clear hK hat
      obtain ⟨p, hp⟩ : ∃ p, p = x * c := ⟨_, rfl⟩
      have hpb : p ≤ 16 * 16 := by rw [hp]; exact Nat.mul_le_mul (by omega) hc
      have hpc : (x : Int) * (c : Int) = (p : Int) := by rw [hp]; simp
      rw [← hp] at hjn HTK
      obtain ⟨u1, hu1⟩ : ∃ u, u = p + y := ⟨_, rfl⟩
      have e1 : IntKind.i64.wrap ((x : Int) * (c : Int)) = (p : Int) := by rw [hpc]; exact wrapI (by omega)
      have e2 : IntKind.i64.wrap ((p : Int) + (y : Int)) = (u1 : Int) := by rw [wrapI (by omega)]; omega
      rw [← hu1] at hjn HTK
      clear hp hpb hpc hu1
      obtain ⟨VA, vc, rfl⟩ := own_slice HM.out.o
      have hjn2 : (u1 : Int) < (n : Int) := by omega
      have hj0 : (0 : Int) ≤ (u1 : Int) := by omega
      have qx := (HH.out.below HM.out.b).get hjn
      have zx := Nat.lt_of_lt_of_le zab HM.out.b.size
      have HSB : Hid (w.heap.size < w.heap.size + 1 + 1 + 1 ∧ w.heap.size + 1 + 1 < w.heap.size + 1 + 1 + 1 ∧ ab < w.heap.size + 1 + 1 + 1) := Lib.hid (by omega)
      generalize Im.at0 l u1 = e at HTK qx
      obtain ⟨B3, hB3⟩ : ∃ b, b = w.heap.size + 1 + 1 + 1 := ⟨_, rfl⟩
      have zb1 : w.heap.size < B3 := by omega
      have zb2 : w.heap.size + 1 + 1 < B3 := by omega
      have zb3 : ab < B3 := by omega
      have zb4 : B3 ≤ wr.heap.size := by rw [hB3]; exact HM.out.n
      go_wp2_with fail
      refine wp_region_planL [(0, true), (1, true), (2, true), (3, true), (4, true), (5, true), (6, true), (7, true), (8, true), (9, true), (10, true), (11, true), (12, false), (13, false), (14, true)] B3 15 (by kernel_rfl) (by kernel_rfl) zb4 (fun _ _ d _ _ h => by cases d <;> exact h) ?_
      have hC : Below B3 wr wr := Below.refl _ _
      repeat (first | (refine wpPlanLA_skip _ rfl (by rfl) ?_; simp only [Act.put, List.setIfInBounds_toArray, List.set_cons_zero, List.set_cons_succ]) | (refine wpPlanLA_soft _ ?_ rfl (by rfl) ?_ ?_; rotate_left; (intro wq hq hcq; have hz := (hcq _ _ zb3).trans qx; go_simp; first | exact rfl | exact ⟨rfl, rfl⟩); simp only [Act.put, List.setIfInBounds_toArray, List.set_cons_zero, List.set_cons_succ]))
      refine wpPlanLA_hard _ rfl (by rfl) (fun w3 hS K hK => ?_)
      replace hC := hC.trans (hS.mono zb4)
      have hD := hS
      clear hS
      go_simp
      have hz3 : B3 ≤ w3.heap.size := Nat.le_trans zb4 hC.size
      refine hK _ _ (hC.alloc hz3 _) ?_
      clear hK K
      have hrd := (rd1x w3 e)
      have hC4 := hC.alloc hz3 (Obj.cells #[.int .i64 e] 3)
      have hD4 := hD.alloc hD.size (Obj.cells #[.int .i64 e] 3)
      clear hD
      generalize w3.alloc (Obj.cells #[.int .i64 e] 3) = w4 at hrd hC4 hD4 ⊢
      clear hC hz3
      generalize w3.heap.size = g3 at hrd ⊢
      try simp only [Act.put, List.setIfInBounds_toArray, List.set_cons_zero, List.set_cons_succ]
      refine wpPlanLA_hard _ rfl (by rfl) (fun w5 hS K hK => ?_)
      have hz4 : B3 ≤ w4.heap.size := Nat.le_trans zb4 hC4.size
      replace hC4 := hC4.trans (hS.mono hz4)
      replace hrd := hrd.below hS
      replace hD4 := hD4.call hS rfl
      clear hS hz4
      have hz5 : B3 ≤ w5.heap.size := Nat.le_trans zb4 hC4.size
      have hown : Own w5 B3 (.slice VA k vc) k (encI (LL.take k)) := by rw [hB3]; exact ownC HM.out.o hD4
      refine wp_app_ints _ _ rfl B3 (.slice VA k vc) k (LL.take k) [e] rfl hown (some ⟨g3, 0, none⟩) 1 1 rfl hrd (by omega) hz5 ?_
      intro v' w6 ho6 hb6
      obtain ⟨VB, vb, rfl⟩ := own_slice ho6
      refine hK _ _ (hC4.trans hb6) ?_
      clear hK K hown hrd hD4
      try simp only [Act.put, List.setIfInBounds_toArray, List.set_cons_zero, List.set_cons_succ]
      repeat (first | (refine wpPlanLA_skip _ rfl (by rfl) ?_; simp only [Act.put, List.setIfInBounds_toArray, List.set_cons_zero, List.set_cons_succ]) | (refine wpPlanLA_soft _ ?_ rfl (by rfl) ?_ ?_; rotate_left; (intro wq hq hcq; have hz := (hcq _ _ zb3).trans qx; go_simp; first | exact rfl | exact ⟨rfl, rfl⟩); simp only [Act.put, List.setIfInBounds_toArray, List.set_cons_zero, List.set_cons_succ]))
      refine wpPlanLA_last _ rfl (by rfl) (fun w7 hS7 K hK => ?_)
      have hC7 := (hC4.trans hb6).trans (hS7.mono (Nat.le_trans hz5 hb6.size))
      have ho7 := ho6.below hS7
      have qc : w7.cell? ⟨w.heap.size + 1 + 1, 2, none⟩ = some (.slice VA k vc) := cell_at ((hC7.block _ zb2).trans HM.out.s) rfl
      have qf : w7.frozen? ⟨w.heap.size + 1 + 1, 2, none⟩ = false := free_at ((hC7.block _ zb2).trans HM.out.s)
      have zq := cell_lt qc
      have HM8 := Lib.hid (HM.out.push (by rw [← hB3]; exact hC7) (by rw [← hB3]; exact ho7))
      rw [HTK.out] at HM8
      clear hS7 hC4 hb6 ho6 hC7 ho7 qx zx qg0 qg1 qg2 qs0 qs2 zg zs HM hz5
      go_simp
      refine hK _ _ (fun w8 hS8 => ?_)
      clear hK K
      have HM9 := Lib.hid (HM8.out.below hS8)
      clear hS8 qc qf zq HM8
      have HK2 : Hid (y * r + (x + 1) = k + 1) := Lib.hid (by have := HKK.out; omega)
      go_wp2
      go_roundw
      case rel => exact ⟨x + 1, _, by omega, by go_num, by rw [HK2.out]; exact HM9⟩
      case measure => simp [intOf]; omega

end Go.Proofs.YtdimmlljjmmdbaaGreatDoor
