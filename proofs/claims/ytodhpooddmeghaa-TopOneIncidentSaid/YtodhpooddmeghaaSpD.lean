/- Shortest paths with the fewest edges: a weight that counts the travel time first and then the edge. Plain law: no program is named here. -/
import Derived.Test.YtodhpooddmeghaaSpC
namespace Go.Proofs.Ytodhpooddmeghaa
set_option linter.unusedSimpArgs false
set_option linter.unusedVariables false
namespace Sp
/-! ### distances are there -/
section
variable {A : Arcs} {W : Int} {src : Nat → Prop}
theorem relax_all (hA : A.Ok W) (hW : A.N * W < INF) (hW0 : 0 ≤ W) {v : Nat} (hv : v < A.N) {δ : Int} (hf : δ ≠ INF) : ∀ (k : Nat) {d q : List Int}, k ≤ A.M → Run A W src d q (fun i => A.s i = v ∧ k ≤ i) → ix d v = δ → ∃ d' q', Run A W src d' q' (fun _ => False) ∧ mu A W d' q' ≤ mu A W d q := by
  intro k
  generalize hn : A.M - k = n
  induction n generalizing k with
  | zero =>
    intro d q hk h _
    exact ⟨d, q, h.rest (fun i hi hx => by have := hi.1; omega), Nat.le_refl _⟩
  | succ n ih =>
    intro d q hk h hd
    by_cases hs : A.s k = v
    · by_cases ho : A.wt k ≠ INF ∧ δ + A.wt k < ix d (A.t k)
      · have h1 := Run.step hA hW hW0 h (i := k) (δ := δ) (q' := ((δ + A.wt k) * 4096 + A.t k) :: q) ⟨by omega, ho.1⟩ (by rw [hs]; exact hd) hf ho.2 (fun y => by simp) rfl
        obtain ⟨d', q', h2, h3⟩ := ih (k + 1) (by omega) (by omega) (h1.1.rest (fun i _ hx => ⟨hx.1.1, by have := hx.1.2; have := hx.2; omega⟩)) (by rw [← hs]; exact h1.2.2)
        exact ⟨d', q', h2, Nat.le_trans h3 h1.2.1⟩
      · exact ih (k + 1) (by omega) (by omega) ((h.pass (i := k) (δ := δ) (by rw [hs]; exact hd) ho).rest (fun i _ hx => ⟨hx.1.1, by have := hx.1.2; have := hx.2; omega⟩)) hd
    · exact ih (k + 1) (by omega) (by omega) (h.rest (fun i _ hx => ⟨hx.1, by
        have := hx.2
        by_cases e : k = i
        · subst e; exact absurd hx.1 hs
        · omega⟩)) hd
theorem run_ends (hA : A.Ok W) (hW : A.N * W < INF) (hW0 : 0 ≤ W) (hN : A.N ≤ 4096) : ∀ (m : Nat) {d q : List Int}, mu A W d q = m → Run A W src d q (fun _ => False) → ∃ d', IsDist A W src (ix d') := by
  intro m
  induction m using Nat.strongRecOn with
  | _ m ih =>
    intro d q hm h
    cases q with
    | nil => exact ⟨d, h.done hA hW hW0 rfl⟩
    | cons x q =>
      obtain ⟨v, δ, hv, hx, hd, hb, h0⟩ := h.ent (List.mem_cons_self ..)
      have hq : ∀ y, y ∈ x :: q ↔ y = x ∨ y ∈ q := fun y => List.mem_cons
      have hp : mu A W d q < mu A W d (x :: q) := mu_pop rfl
      by_cases hlt : ix d v < δ
      · exact ih _ (by omega) rfl (h.old hA hq rfl hx (by omega) hN hlt)
      · have hf : δ ≠ INF := by omega
        obtain ⟨d', q', h1, h2⟩ := relax_all hA hW hW0 hv hf 0 (Nat.zero_le _) ((h.take hA hq rfl hx (by omega) hN).rest (fun i _ hs => ⟨hs, Nat.zero_le _⟩)) (by omega)
        exact ih _ (by omega) rfl h1
/-- distances from one node -/
theorem exists_dist (hA : A.Ok W) (hW : A.N * W + 1 < INF) (hW0 : 0 ≤ W) (hN : A.N ≤ 4096) {b : Nat} (hb : b < A.N) : ∃ D : Nat → Int, IsDist A W (· = b) D := by
  have h0 := Run.start (W := W) hA (by omega)
  have h1 := Run.put hA hW0 hb h0 (q' := [(b : Int)]) (by unfold ix; simp [hb]; decide) (fun y => by simp) rfl
  obtain ⟨d, hd⟩ := run_ends hA (by omega) hW0 hN _ rfl h1
  exact ⟨_, hd.src (fun v hv => by simp)⟩
end
/-- the distances of graphs that agree on their arcs -/
theorem IsDist.congr {A B : Arcs} {W : Int} {src : Nat → Prop} {d : Nat → Int} (h : IsDist A W src d) (hN : A.N = B.N) (hM : A.M = B.M) (hs : A.s = B.s) (ht : A.t = B.t) (hw : ∀ i, i < A.M → A.wt i = B.wt i) : IsDist B W src d := by
  have ho : ∀ i, B.Op i → A.Op i := fun i hi => ⟨hM ▸ hi.1, by rw [hw i (hM ▸ hi.1)]; exact hi.2⟩
  have ho' : ∀ i, A.Op i → B.Op i := fun i hi => ⟨hM ▸ hi.1, by rw [← hw i hi.1]; exact hi.2⟩
  refine ⟨⟨fun v hv => h.up.zero v (hN ▸ hv), fun i hi hf => ?_⟩, ⟨fun v hv => h.lo.pos v (hN ▸ hv), fun v hv hf => ?_⟩, fun v hv => ?_⟩
  · have := h.up.rel i (ho i hi) (by rw [hs]; exact hf)
    rw [hs, ht, hw i (ho i hi).1] at this; exact this
  · rcases h.lo.why v (hN ▸ hv) hf with h1 | ⟨i, h1, h2, h3, h4⟩
    · exact .inl h1
    · refine .inr ⟨i, ho' i h1, by rw [← ht]; exact h2, by rw [← hs]; exact h3, ?_⟩
      rw [hw i h1.1, hs] at h4; exact h4
  · have := h.bnd v (hN ▸ hv); rwa [hN] at this
/-! ### the weight that counts the travel time first -/
def st (x : Int) : Int := if x = INF then INF else x * 8192 + 1
def star (A : Arcs) : Arcs := { A with wt := fun i => st (A.wt i) }
def dOf (D : Nat → Int) (v : Nat) : Int := if D v = INF then INF else D v / 8192
def fOf (D : Nat → Int) (v : Nat) : Int := if D v = INF then INF else D v % 8192
/-- arcs that lie on shortest paths, each of weight 1 -/
def tightA (A : Arcs) (d : Nat → Int) : Arcs := { A with wt := fun i => if A.wt i < INF ∧ d (A.s i) < INF ∧ d (A.t i) = A.wt i + d (A.s i) then 1 else INF }
theorem tightA_ok {A : Arcs} {W : Int} (hA : A.Ok W) (d : Nat → Int) : (tightA A d).Ok 1 := ⟨hA.s, hA.t, fun i _ => by
  show (if _ then (1 : Int) else INF) = INF ∨ _ ≤ (if _ then (1 : Int) else INF) ∧ (if _ then (1 : Int) else INF) ≤ 1
  split
  · exact .inr ⟨Int.le_refl _, Int.le_refl _⟩
  · exact .inl rfl⟩
theorem tightA_congr (A : Arcs) {d d' : Nat → Int} {W : Int} (hA : A.Ok W) (h : ∀ v, v < A.N → d v = d' v) {src : Nat → Prop} {f : Nat → Int} {V : Int} (hd : IsDist (tightA A d) V src f) : IsDist (tightA A d') V src f :=
  hd.congr rfl rfl rfl rfl fun i hi => by
    show (if _ then (1 : Int) else INF) = (if _ then (1 : Int) else INF)
    rw [h _ (hA.s i hi), h _ (hA.t i hi)]
section
variable {A : Arcs} {W : Int} {b : Nat} {D : Nat → Int}
theorem st_in {x : Int} (h : x ≠ INF) : st x = x * 8192 + 1 := by unfold st; rw [if_neg h]
theorem st_inf {x : Int} (h : x = INF) : st x = INF := by unfold st; rw [if_pos h]
theorem star_ok (hA : A.Ok W) : (star A).Ok (W * 8192 + 1) := ⟨hA.s, hA.t, fun i hi => by
  show st (A.wt i) = INF ∨ (1 ≤ st (A.wt i) ∧ st (A.wt i) ≤ W * 8192 + 1)
  rcases hA.wt i hi with h | h
  · exact .inl (st_inf h)
  · by_cases e : A.wt i = INF
    · exact .inl (st_inf e)
    · rw [st_in e]; right; omega⟩
/-- how a finite distance is made up -/
theorem digits (hA : A.Ok W) (hW8 : W * 8192 + 1 < INF) (hb : b < A.N) (h : IsDist (star A) (W * 8192 + 1) (· = b) D) : ∀ (m v : Nat), v < A.N → D v = m → D v ≠ INF → ∃ (l : Int) (k : Nat), D v = 8192 * l + k ∧ 0 ≤ l ∧ k ≤ rank (star A) D v := by
  intro m
  induction m using Nat.strongRecOn with
  | _ m ih =>
    intro v hv hm hf
    by_cases hs : v = b
    · refine ⟨0, 0, ?_, Int.le_refl _, Nat.zero_le _⟩
      rw [h.up.zero v hv hs]; rfl
    · obtain ⟨i, hi, ht, hfs, e⟩ := h.tight (star_ok hA) hv hf hs
      have hw : A.wt i ≠ INF := fun e => hi.2 (st_inf e)
      have hw2 : 1 ≤ A.wt i := ((hA.wt i hi.1).resolve_left hw).1
      have e2 : D v = D (A.s i) + (A.wt i * 8192 + 1) := by rw [← st_in hw]; exact e
      have hsN : A.s i < A.N := hA.s i hi.1
      have h0 := (h.lo.pos (A.s i) hsN).1
      obtain ⟨l, k, h1, h2, h3⟩ := ih (D (A.s i)).toNat (by omega) (A.s i) hsN (by omega) hfs
      refine ⟨l + A.wt i, k + 1, by omega, by omega, ?_⟩
      have := rank_lt (A := star A) (D := D) (u := A.s i) (v := v) hsN (by omega)
      omega
/-- what a finite distance says -/
theorem dig (hA : A.Ok W) (hW8 : W * 8192 + 1 < INF) (hN : A.N ≤ 4096) (hb : b < A.N) (h : IsDist (star A) (W * 8192 + 1) (· = b) D) {v : Nat} (hv : v < A.N) (hf : D v ≠ INF) : D v = 8192 * dOf D v + fOf D v ∧ 0 ≤ dOf D v ∧ 0 ≤ fOf D v ∧ fOf D v < A.N ∧ dOf D v < INF := by
  have h0 := h.lo.pos v hv
  obtain ⟨l, k, h1, h2, h3⟩ := digits hA hW8 hb h (D v).toNat v hv (by omega) hf
  have h4 : rank (star A) D v < A.N := rank_le (A := star A) hv
  unfold dOf fOf
  rw [if_neg hf, if_neg hf]
  have : k < 8192 := by omega
  have e1 : D v / 8192 = l := by omega
  have e2 : D v % 8192 = k := by omega
  rw [e1, e2]
  have h5 := h0.2
  refine ⟨h1, h2, by omega, by omega, ?_⟩
  have : (INF : Int) = 4611686018427387904 := rfl
  omega
theorem dOf_inf {v : Nat} (h : D v = INF) : dOf D v = INF := by unfold dOf; rw [if_pos h]
theorem fOf_inf {v : Nat} (h : D v = INF) : fOf D v = INF := by unfold fOf; rw [if_pos h]
theorem fin_of (h : IsDist (star A) (W * 8192 + 1) (· = b) D) (hA : A.Ok W) (hW8 : W * 8192 + 1 < INF) (hN : A.N ≤ 4096) (hb : b < A.N) {v : Nat} (hv : v < A.N) : dOf D v < INF ↔ D v ≠ INF :=
  ⟨fun hl e => by rw [dOf_inf e] at hl; exact absurd hl (by decide), fun hf => (dig hA hW8 hN hb h hv hf).2.2.2.2⟩
/-- an arc relaxes both digits -/
theorem star_rel (hA : A.Ok W) (hW8 : W * 8192 + 1 < INF) (hN : A.N ≤ 4096) (hNW : A.N * (W * 8192 + 1) + (W * 8192 + 1) < INF) (hb : b < A.N) (h : IsDist (star A) (W * 8192 + 1) (· = b) D) {i : Nat} (hi : A.Op i) (hf : D (A.s i) ≠ INF) :
    D (A.t i) ≠ INF ∧ D (A.t i) ≤ D (A.s i) + (A.wt i * 8192 + 1) := by
  have hw2 := (hA.wt i hi.1).resolve_left hi.2
  have e : (star A).wt i = A.wt i * 8192 + 1 := st_in hi.2
  have ho : (star A).Op i := ⟨hi.1, by rw [e]; have : (INF : Int) = 4611686018427387904 := rfl; omega⟩
  have h1 := h.up.rel i ho hf
  rw [e] at h1
  have h1 : D (A.t i) ≤ D (A.s i) + (A.wt i * 8192 + 1) := h1
  have h2 : D (A.s i) ≤ A.N * (W * 8192 + 1) := (h.bnd (A.s i) (hA.s i hi.1)).resolve_left hf
  exact ⟨by omega, h1⟩
theorem star_dist (hA : A.Ok W) (hW8 : W * 8192 + 1 < INF) (hN : A.N ≤ 4096) (hNW : A.N * (W * 8192 + 1) + (W * 8192 + 1) < INF) (hb : b < A.N) (h : IsDist (star A) (W * 8192 + 1) (· = b) D) : IsDist A W (· = b) (dOf D) := by
  have I : (INF : Int) = 4611686018427387904 := rfl
  refine ⟨⟨fun v hv hs => ?_, fun i hi hf => ?_⟩, ⟨fun v hv => ?_, fun v hv hf => ?_⟩, fun v hv => ?_⟩
  · have := h.up.zero v hv hs
    unfold dOf; rw [this]; decide
  · have hfD : D (A.s i) ≠ INF := fun e => hf (dOf_inf e)
    obtain ⟨h1, h2⟩ := star_rel hA hW8 hN hNW hb h hi hfD
    have d1 := dig hA hW8 hN hb h (hA.t i hi.1) h1
    have d2 := dig hA hW8 hN hb h (hA.s i hi.1) hfD
    omega
  · by_cases e : D v = INF
    · rw [dOf_inf e]; exact ⟨by decide, Int.le_refl _⟩
    · have := dig hA hW8 hN hb h hv e; omega
  · by_cases e : D v = INF
    · exact absurd (dOf_inf e) hf
    · by_cases hs : v = b
      · exact .inl ⟨hs, (dig hA hW8 hN hb h hv e).2.1⟩
      · obtain ⟨i, hi, ht, hfs, e2⟩ := h.tight (star_ok hA) hv e hs
        have hw : A.wt i ≠ INF := fun e => hi.2 (st_inf e)
        have e2 : D v = D (A.s i) + (A.wt i * 8192 + 1) := by rw [← st_in hw]; exact e2
        have d1 := dig hA hW8 hN hb h hv e
        have d2 := dig hA hW8 hN hb h (hA.s i hi.1) hfs
        exact .inr ⟨i, ⟨hi.1, hw⟩, ht, by omega, by omega⟩
  · by_cases e : D v = INF
    · exact .inl (dOf_inf e)
    · right
      have d1 := dig hA hW8 hN hb h hv e
      have h2 : D v ≤ A.N * (W * 8192 + 1) := (h.bnd v hv).resolve_left e
      have h3 : (A.N : Int) * (W * 8192 + 1) = A.N * W * 8192 + A.N := by rw [Int.mul_add, Int.mul_one, Int.mul_assoc]
      omega
theorem tight_iff (hA : A.Ok W) (hW8 : W * 8192 + 1 < INF) (hN : A.N ≤ 4096) (hb : b < A.N) (h : IsDist (star A) (W * 8192 + 1) (· = b) D) {i : Nat} (hi : A.Op i) (hf : D (A.s i) ≠ INF) (hft : D (A.t i) ≠ INF) :
    D (A.t i) = D (A.s i) + (A.wt i * 8192 + 1) ↔ dOf D (A.t i) = A.wt i + dOf D (A.s i) ∧ fOf D (A.t i) = fOf D (A.s i) + 1 := by
  have d1 := dig hA hW8 hN hb h (hA.t i hi.1) hft
  have d2 := dig hA hW8 hN hb h (hA.s i hi.1) hf
  omega
theorem few_dist (hA : A.Ok W) (hW8 : W * 8192 + 1 < INF) (hN : A.N ≤ 4096) (hNW : A.N * (W * 8192 + 1) + (W * 8192 + 1) < INF) (hb : b < A.N) (h : IsDist (star A) (W * 8192 + 1) (· = b) D) : IsDist (tightA A (dOf D)) 1 (· = b) (fOf D) := by
  have I : (INF : Int) = 4611686018427387904 := rfl
  have hop : ∀ i, (tightA A (dOf D)).Op i → A.Op i ∧ (tightA A (dOf D)).wt i = 1 ∧ dOf D (A.s i) < INF ∧ dOf D (A.t i) = A.wt i + dOf D (A.s i) := fun i hi => by
    have h2 : (if A.wt i < INF ∧ dOf D (A.s i) < INF ∧ dOf D (A.t i) = A.wt i + dOf D (A.s i) then (1 : Int) else INF) ≠ INF := hi.2
    by_cases c : A.wt i < INF ∧ dOf D (A.s i) < INF ∧ dOf D (A.t i) = A.wt i + dOf D (A.s i)
    · exact ⟨⟨hi.1, by omega⟩, if_pos c, c.2.1, c.2.2⟩
    · rw [if_neg c] at h2; exact absurd rfl h2
  refine ⟨⟨fun v hv hs => ?_, fun i hi hf => ?_⟩, ⟨fun v hv => ?_, fun v hv hf => ?_⟩, fun v hv => ?_⟩
  · have := h.up.zero v hv hs
    unfold fOf; rw [this]; decide
  · obtain ⟨ho, hw, h1, h2⟩ := hop i hi
    have hfD : D (A.s i) ≠ INF := fun e => hf (fOf_inf e)
    obtain ⟨h3, h4⟩ := star_rel hA hW8 hN hNW hb h ho hfD
    have d1 := dig hA hW8 hN hb h (hA.t i hi.1) h3
    have d2 := dig hA hW8 hN hb h (hA.s i hi.1) hfD
    rw [hw]
    show fOf D (A.t i) ≤ fOf D (A.s i) + 1
    omega
  · by_cases e : D v = INF
    · rw [fOf_inf e]; exact ⟨by decide, Int.le_refl _⟩
    · have := dig hA hW8 hN hb h hv e; omega
  · by_cases e : D v = INF
    · exact absurd (fOf_inf e) hf
    · by_cases hs : v = b
      · exact .inl ⟨hs, (dig hA hW8 hN hb h hv e).2.2.1⟩
      · obtain ⟨i, hi, ht, hfs, e2⟩ := h.tight (star_ok hA) hv e hs
        have hw : A.wt i ≠ INF := fun e => hi.2 (st_inf e)
        have hw2 := (hA.wt i hi.1).resolve_left hw
        have e2 : D v = D (A.s i) + (A.wt i * 8192 + 1) := by rw [← st_in hw]; exact e2
        have ht' : A.t i = v := ht
        have d1 := dig hA hW8 hN hb h hv e
        have d2 := dig hA hW8 hN hb h (hA.s i hi.1) hfs
        have hwi : (tightA A (dOf D)).wt i = 1 := if_pos ⟨by omega, d2.2.2.2.2, by rw [ht']; omega⟩
        refine .inr ⟨i, ⟨hi.1, by rw [hwi]; decide⟩, ht, ?_, ?_⟩
        · show fOf D (A.s i) ≠ INF; omega
        · rw [hwi]; show fOf D (A.s i) + 1 ≤ fOf D v; omega
  · by_cases e : D v = INF
    · exact .inl (fOf_inf e)
    · right
      have := dig hA hW8 hN hb h hv e
      show fOf D v ≤ A.N * 1
      omega
/-! ### the way -/
/-- arc i leads on from v -/
def Next (A : Arcs) (D : Nat → Int) (v i : Nat) : Prop := A.Op i ∧ A.t i = v ∧ D (A.s i) ≠ INF ∧ D v = D (A.s i) + (A.wt i * 8192 + 1)
def Least (A : Arcs) (D : Nat → Int) (v i : Nat) : Prop := Next A D v i ∧ ∀ j, j < i → ¬ Next A D v j
inductive Trail (A : Arcs) (D : Nat → Int) (b : Nat) : Nat → List Nat → Prop
  | nil : Trail A D b b []
  | cons {v i : Nat} {l : List Nat} (hv : v ≠ b) (hi : Least A D v i) (hr : Trail A D b (A.s i) l) : Trail A D b v (i :: l)
theorem Least.unique {v i j : Nat} (h : Least A D v i) (h' : Least A D v j) : i = j := by
  rcases Nat.lt_trichotomy i j with hl | hl | hl
  · exact absurd h.1 (h'.2 i hl)
  · exact hl
  · exact absurd h'.1 (h.2 j hl)
theorem Trail.unique {v : Nat} {l : List Nat} (h : Trail A D b v l) : ∀ {l' : List Nat}, Trail A D b v l' → l = l' := by
  induction h with
  | nil =>
    intro l' h'
    cases h' with
    | nil => rfl
    | cons hv _ _ => exact absurd rfl hv
  | cons hv hi hr ih =>
    intro l' h'
    cases h' with
    | nil => exact absurd rfl hv
    | cons hv' hi' hr' =>
      have e := hi.unique hi'
      subst e
      rw [ih hr']
theorem next_ex (hA : A.Ok W) (h : IsDist (star A) (W * 8192 + 1) (· = b) D) {v : Nat} (hv : v < A.N) (hf : D v ≠ INF) (hs : v ≠ b) : ∃ i, Next A D v i := by
  obtain ⟨i, hi, ht, hfs, e2⟩ := h.tight (star_ok hA) hv hf hs
  have hw : A.wt i ≠ INF := fun e => hi.2 (st_inf e)
  exact ⟨i, ⟨hi.1, hw⟩, ht, hfs, by rw [← st_in hw]; exact e2⟩
/-- how far a way leads, and how many edges it has -/
theorem Trail.sum (hA : A.Ok W) (hW8 : W * 8192 + 1 < INF) (hN : A.N ≤ 4096) (hb : b < A.N) (h : IsDist (star A) (W * 8192 + 1) (· = b) D) {v : Nat} {l : List Nat} (ht : Trail A D b v l) : v < A.N → D v ≠ INF → (∀ i ∈ l, A.Op i) ∧ (l.length : Int) = fOf D v := by
  induction ht with
  | nil =>
    intro hv _
    have := h.up.zero b hb rfl
    exact ⟨(fun i hi => by cases hi), (by unfold fOf; rw [this]; rfl)⟩
  | @cons v i l hv hi hr ih =>
    intro hvN hf
    obtain ⟨⟨ho, hti, hfs, e⟩, _⟩ := hi
    obtain ⟨h1, h2⟩ := ih (hA.s i ho.1) hfs
    subst hti
    have := (tight_iff hA hW8 hN hb h ho hfs hf).1 e
    refine ⟨fun j hj => ?_, ?_⟩
    · rcases List.mem_cons.1 hj with rfl | hj
      · exact ho
      · exact h1 j hj
    · rw [List.length_cons]; omega
end
end Sp
end Go.Proofs.Ytodhpooddmeghaa
