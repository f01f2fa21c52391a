/- The search with a queue: its queue stays short, and it ends. Plain law: no program is named here. -/
import Derived.Test.YtodhpooddmeghaaSpB
namespace Go.Proofs.Ytodhpooddmeghaa
set_option linter.unusedSimpArgs false
set_option linter.unusedVariables false
namespace Sp
/-- the sum of the distances, each cut off at K -/
def pot (K : Int) (d : List Int) : Int := (d.map (fun x => min x K)).sum
theorem pot_set {K : Int} {d : List Int} {u : Nat} {x : Int} (h : u < d.length) : pot K (d.set u x) = pot K d - min (ix d u) K + min x K := by
  unfold pot
  rw [List.map_set, sum_set (by simpa using h)]
  have : ix (d.map (fun x => min x K)) u = min (ix d u) K := by rw [ix_get (by simpa using h), ix_get h]; simp
  rw [this]
theorem pot_nonneg {K : Int} {d : List Int} (hK : 0 ≤ K) (h : ∀ v, v < d.length → 0 ≤ ix d v) : 0 ≤ pot K d := by
  unfold pot
  refine sum_nonneg fun v hv => ?_
  have hv' : v < d.length := by simpa using hv
  have := h v hv'
  rw [ix_get hv'] at this
  rw [ix_get hv]; simp; omega
theorem pot_rep {K x : Int} (h : K ≤ x) : ∀ n : Nat, pot K (List.replicate n x) = n * K
  | 0 => by simp [pot]
  | n + 1 => by
    have := pot_rep h n
    unfold pot at this ⊢
    rw [List.replicate_succ, List.map_cons, List.sum_cons, this]
    have : min x K = K := by omega
    rw [this, Int.natCast_add, Int.add_mul]; omega
/-- the search in its run -/
structure Run (A : Arcs) (W : Int) (src : Nat → Prop) (d q : List Int) (ex : Nat → Prop) : Prop where
  inv : SInv A W src d q ex
  pot : (q.length : Int) + pot (A.N * W + 1) d ≤ A.N * (A.N * W + 1)
def mu (A : Arcs) (W : Int) (d q : List Int) : Nat := (2 * pot (A.N * W + 1) d).toNat + q.length
section
variable {A : Arcs} {W : Int} {src src' : Nat → Prop} {d q q' : List Int} {ex ex' : Nat → Prop}
theorem nw0 (A : Arcs) (hW0 : 0 ≤ W) : 0 ≤ (A.N : Int) * W := Int.mul_nonneg (by omega) hW0
theorem Run.p0 (h : Run A W src d q ex) (hW0 : 0 ≤ W) : 0 ≤ Sp.pot (A.N * W + 1) d := pot_nonneg (by have := nw0 A hW0; omega) fun v hv => (h.inv.bnd v (by rw [← h.inv.len]; exact hv)).1
theorem Run.qlen (h : Run A W src d q ex) (hW0 : 0 ≤ W) : (q.length : Int) ≤ A.N * (A.N * W + 1) := by
  have := h.p0 hW0; have := h.pot; omega
theorem Run.ends (h : Run A W src d q ex) (e : ∀ v, v < A.N → (src v ↔ src' v)) : Run A W src' d q ex := ⟨h.inv.ends e, h.pot⟩
theorem Run.rest (h : Run A W src d q ex) (hx : ∀ i, A.Op i → ex i → ex' i) : Run A W src d q ex' := ⟨h.inv.mono hx (fun _ => Iff.rfl), h.pot⟩
theorem Run.start (hA : A.Ok W) (hK : (A.N : Int) * W + 1 ≤ INF) : Run A W (fun _ => False) (List.replicate A.N INF) [] (fun _ => False) :=
  ⟨SInv.start hA, by rw [pot_rep hK]; simp⟩
theorem Run.again {u : Nat} (h : Run A W src d q ex) (h0 : ix d u = 0) : Run A W (fun v => src v ∨ v = u) d q ex := ⟨h.inv.again h0, h.pot⟩
theorem Run.put (hA : A.Ok W) (hW0 : 0 ≤ W) {u : Nat} (hu : u < A.N) (h : Run A W src d q ex) (hn : ix d u ≠ 0) (hq : ∀ y, y ∈ q' ↔ y = (u : Int) ∨ y ∈ q) (hl : q'.length = q.length + 1) : Run A W (fun v => src v ∨ v = u) (d.set u 0) q' ex :=
  ⟨h.inv.put hA hW0 hu hq, by
    have h1 := h.pot
    have h2 := (h.inv.bnd u hu).1
    have h3 := nw0 A hW0
    rw [pot_set (by rw [h.inv.len]; exact hu)]
    omega⟩
theorem mu_pop (hl : q'.length + 1 = q.length) : mu A W d q' < mu A W d q := by unfold mu; omega
theorem Run.old (hA : A.Ok W) (h : Run A W src d q (fun _ => False)) {x δ : Int} {v : Nat} (hq : ∀ y, y ∈ q ↔ y = x ∨ y ∈ q') (hl : q'.length + 1 = q.length) (hx : x = δ * 4096 + v) (hv : v < 4096) (hN : A.N ≤ 4096) (hlt : ix d v < δ) : Run A W src d q' (fun _ => False) :=
  ⟨h.inv.old hA hq hx hv hN hlt, by have := h.pot; omega⟩
theorem Run.take (hA : A.Ok W) (h : Run A W src d q (fun _ => False)) {x δ : Int} {v : Nat} (hq : ∀ y, y ∈ q ↔ y = x ∨ y ∈ q') (hl : q'.length + 1 = q.length) (hx : x = δ * 4096 + v) (hv : v < 4096) (hN : A.N ≤ 4096) : Run A W src d q' (fun i => A.s i = v) :=
  ⟨h.inv.take hA hq hx hv hN, by have := h.pot; omega⟩
theorem Run.pass {i : Nat} {δ : Int} (h : Run A W src d q ex) (hδ : ix d (A.s i) = δ) (hn : ¬ (A.wt i ≠ INF ∧ δ + A.wt i < ix d (A.t i))) : Run A W src d q (fun j => ex j ∧ j ≠ i) := ⟨h.inv.pass hδ hn, h.pot⟩
theorem Run.step (hA : A.Ok W) (hW : A.N * W < INF) (hW0 : 0 ≤ W) {i : Nat} {δ : Int} (h : Run A W src d q ex) (hi : A.Op i) (hδ : ix d (A.s i) = δ) (hf : δ ≠ INF) (hlt : δ + A.wt i < ix d (A.t i))
    (hq : ∀ y, y ∈ q' ↔ y = (δ + A.wt i) * 4096 + A.t i ∨ y ∈ q) (hl : q'.length = q.length + 1) : Run A W src (d.set (A.t i) (δ + A.wt i)) q' (fun j => ex j ∧ j ≠ i) ∧ mu A W (d.set (A.t i) (δ + A.wt i)) q' ≤ mu A W d q ∧ ix (d.set (A.t i) (δ + A.wt i)) (A.s i) = δ := by
  obtain ⟨h1, h2, h3, h4⟩ := h.inv.step hA hW hW0 hi hδ hf hlt hq
  have ht := hA.t i hi.1
  have htl : A.t i < d.length := by rw [h.inv.len]; exact ht
  have hp := h.pot
  have h0 := nw0 A hW0
  have e : Sp.pot (A.N * W + 1) (d.set (A.t i) (δ + A.wt i)) + 1 ≤ Sp.pot (A.N * W + 1) d := by
    rw [pot_set htl]; omega
  have hr : Run A W src (d.set (A.t i) (δ + A.wt i)) q' (fun j => ex j ∧ j ≠ i) := ⟨h1, by omega⟩
  refine ⟨hr, ?_, ?_⟩
  · have p1 := hr.p0 hW0
    have p2 := h.p0 hW0
    unfold mu; omega
  · rw [ix_set htl, if_neg (fun e => h2 e.symm)]; exact hδ
/-- what is pushed is in bounds -/
theorem Run.step_bd (hA : A.Ok W) (hW : A.N * W < INF) (hW0 : 0 ≤ W) {i : Nat} {δ : Int} (h : Run A W src d q ex) (hi : A.Op i) (hδ : ix d (A.s i) = δ) (hf : δ ≠ INF) (hlt : δ + A.wt i < ix d (A.t i)) : 0 ≤ δ + A.wt i ∧ δ + A.wt i ≤ A.N * W := by
  obtain ⟨h1, h2, h3, h4⟩ := h.inv.step hA hW hW0 hi hδ hf hlt (q' := ((δ + A.wt i) * 4096 + A.t i) :: q) (fun y => by simp)
  exact ⟨h4, h3⟩
theorem Run.done (hA : A.Ok W) (hW : A.N * W < INF) (hW0 : 0 ≤ W) (h : Run A W src d q (fun _ => False)) (hq : q.length = 0) : IsDist A W src (ix d) := by
  have : q = [] := by cases q with | nil => rfl | cons => simp at hq
  subst this
  exact h.inv.done hA hW hW0
/-- an entry that is taken -/
theorem Run.ent (h : Run A W src d q ex) {x : Int} (hx : x ∈ q) : ∃ (v : Nat) (δ : Int), v < A.N ∧ x = δ * 4096 + v ∧ ix d v ≤ δ ∧ δ ≤ A.N * W ∧ 0 ≤ ix d v := by
  obtain ⟨v, δ, h1, h2, h3, h4⟩ := h.inv.ent x hx
  exact ⟨v, δ, h1, h2, h3, h4, (h.inv.bnd v h1).1⟩
end
end Sp
end Go.Proofs.Ytodhpooddmeghaa
