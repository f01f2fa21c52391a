/- Shortest distances: what they are, that they are unique, that they are the lengths of walks. Plain law: no program is named here. -/
import Derived.WalkKit
namespace Go.Proofs.Ytmacmlgjejdhpaa
set_option linter.unusedSimpArgs false
set_option linter.unusedVariables false
namespace Sp
abbrev INF : Int := 4611686018427387904
/-- arcs 0 .. M-1 between nodes 0 .. N-1; an arc of weight INF is closed -/
structure Arcs where
  N : Nat
  M : Nat
  s : Nat → Nat
  t : Nat → Nat
  wt : Nat → Int
structure Arcs.Ok (A : Arcs) (W : Int) : Prop where
  s : ∀ i, i < A.M → A.s i < A.N
  t : ∀ i, i < A.M → A.t i < A.N
  wt : ∀ i, i < A.M → A.wt i = INF ∨ (1 ≤ A.wt i ∧ A.wt i ≤ W)
/-- open -/
def Arcs.Op (A : Arcs) (i : Nat) : Prop := i < A.M ∧ A.wt i ≠ INF
/-- nothing is too long: what the ends and the arcs force holds -/
structure Upper (A : Arcs) (src : Nat → Prop) (d : Nat → Int) : Prop where
  zero : ∀ v, v < A.N → src v → d v = 0
  rel : ∀ i, A.Op i → d (A.s i) ≠ INF → d (A.t i) ≤ d (A.s i) + A.wt i
/-- nothing is too short: each finite distance has a reason -/
structure Lower (A : Arcs) (src : Nat → Prop) (d : Nat → Int) : Prop where
  pos : ∀ v, v < A.N → 0 ≤ d v ∧ d v ≤ INF
  why : ∀ v, v < A.N → d v ≠ INF → (src v ∧ 0 ≤ d v) ∨ ∃ i, A.Op i ∧ A.t i = v ∧ d (A.s i) ≠ INF ∧ d (A.s i) + A.wt i ≤ d v
structure IsDist (A : Arcs) (W : Int) (src : Nat → Prop) (d : Nat → Int) : Prop where
  up : Upper A src d
  lo : Lower A src d
  bnd : ∀ v, v < A.N → d v = INF ∨ d v ≤ A.N * W
/-- a lower one of a graph with no more, and no faster arcs, is nowhere less -/
theorem le_of {A B : Arcs} {W : Int} {src src' : Nat → Prop} {d d' : Nat → Int} (hA : A.Ok W) (hB : B.Ok W) (hN : A.N = B.N) (hu : Upper A src d) (hl : Lower B src' d')
    (hs : ∀ v, v < A.N → src' v → src v) (ha : ∀ i, B.Op i → ∃ j, A.Op j ∧ A.s j = B.s i ∧ A.t j = B.t i ∧ A.wt j ≤ B.wt i) (hd : ∀ v, v < A.N → d v ≤ INF) : ∀ v, v < A.N → d v ≤ d' v := by
  have key : ∀ (k : Nat) (v : Nat), v < A.N → d' v = k → d' v ≠ INF → d v ≤ d' v := by
    intro k
    induction k using Nat.strongRecOn with
    | _ k ih =>
      intro v hv hk hf
      rcases hl.why v (hN ▸ hv) hf with ⟨hs', h0⟩ | ⟨i, hi, ht, hfs, hle⟩
      · rw [hu.zero v hv (hs v hv hs')]; exact h0
      · obtain ⟨j, hj, e1, e2, e3⟩ := ha i hi
        have hsN : B.s i < B.N := hB.s i hi.1
        have hw : 1 ≤ B.wt i := by
          rcases hB.wt i hi.1 with h | h
          · exact absurd h hi.2
          · exact h.1
        have h0 := (hl.pos (B.s i) hsN).1
        have := ih (d' (B.s i)).toNat (by omega) (B.s i) (hN ▸ hsN) (by omega) hfs
        have hdf : d (A.s j) ≠ INF := by
          rw [e1]
          have h1 := (hl.pos (B.s i) hsN).2
          omega
        have h2 := hu.rel j hj hdf
        rw [e1, e2, ht] at h2
        omega
  intro v hv
  by_cases hf : d' v = INF
  · rw [hf]; exact hd v hv
  · have h0 := (hl.pos v (hN ▸ hv)).1
    exact key (d' v).toNat v hv (by omega) hf
theorem IsDist.unique {A : Arcs} {W : Int} {src : Nat → Prop} {d d' : Nat → Int} (hA : A.Ok W) (h : IsDist A W src d) (h' : IsDist A W src d') : ∀ v, v < A.N → d v = d' v := fun v hv => by
  have h1 := le_of hA hA rfl h.up h'.lo (fun _ _ h => h) (fun i hi => ⟨i, hi, rfl, rfl, Int.le_refl _⟩) (fun v hv => (h.lo.pos v hv).2) v hv
  have h2 := le_of hA hA rfl h'.up h.lo (fun _ _ h => h) (fun i hi => ⟨i, hi, rfl, rfl, Int.le_refl _⟩) (fun v hv => (h'.lo.pos v hv).2) v hv
  omega
/-- the same for ends that are the same nodes -/
theorem IsDist.src {A : Arcs} {W : Int} {src src' : Nat → Prop} {d : Nat → Int} (h : IsDist A W src d) (e : ∀ v, v < A.N → (src v ↔ src' v)) : IsDist A W src' d :=
  ⟨⟨fun v hv hs => h.up.zero v hv ((e v hv).2 hs), h.up.rel⟩, ⟨h.lo.pos, fun v hv hf => (h.lo.why v hv hf).imp (fun h => ⟨(e v hv).1 h.1, h.2⟩) id⟩, h.bnd⟩
/-- a finite distance has a tight arc -/
theorem IsDist.tight {A : Arcs} {W : Int} {src : Nat → Prop} {d : Nat → Int} (hA : A.Ok W) (h : IsDist A W src d) {v : Nat} (hv : v < A.N) (hf : d v ≠ INF) (hs : ¬ src v) : ∃ i, A.Op i ∧ A.t i = v ∧ d (A.s i) ≠ INF ∧ d v = d (A.s i) + A.wt i := by
  rcases h.lo.why v hv hf with h1 | ⟨i, hi, ht, hfs, hle⟩
  · exact absurd h1.1 hs
  · have := h.up.rel i hi hfs
    rw [ht] at this
    exact ⟨i, hi, ht, hfs, by omega⟩
/-! ### walks -/
/-- a walk over open arcs from u to v: its arcs, its length -/
inductive Walk (A : Arcs) : Nat → Nat → List Nat → Int → Prop
  | nil (v : Nat) : Walk A v v [] 0
  | cons {i v : Nat} {l : List Nat} {L : Int} (h : A.Op i) (hr : Walk A (A.t i) v l L) : Walk A (A.s i) v (i :: l) (A.wt i + L)
theorem Walk.snoc {A : Arcs} {u i : Nat} {l : List Nat} {L : Int} (h : A.Op i) : ∀ {v}, Walk A u v l L → v = A.s i → Walk A u (A.t i) (l ++ [i]) (L + A.wt i) := fun hw e => by
  induction hw with
  | nil v => subst e; have := Walk.cons h (Walk.nil (A := A) (A.t i)); rw [Int.zero_add]; rw [Int.add_zero] at this; exact this
  | cons hj hr ih => rw [Int.add_assoc]; exact Walk.cons hj (ih e)
theorem Walk.lt {A : Arcs} {W : Int} (hA : A.Ok W) {u v : Nat} {l : List Nat} {L : Int} (h : Walk A u v l L) (hu : u < A.N) : v < A.N := by
  induction h with
  | nil v => exact hu
  | cons hi hr ih => exact ih (hA.t _ hi.1)
theorem Walk.pos {A : Arcs} {W : Int} (hA : A.Ok W) {u v : Nat} {l : List Nat} {L : Int} (h : Walk A u v l L) : 0 ≤ L := by
  induction h with
  | nil => omega
  | cons hj _ ih =>
    rcases hA.wt _ hj.1 with h | h
    · exact absurd h hj.2
    · omega
/-- no walk is shorter -/
theorem walk_ge {A : Arcs} {W : Int} {src : Nat → Prop} {d : Nat → Int} (hA : A.Ok W) (hu : Upper A src d) (hd : ∀ v, v < A.N → d v ≤ INF) {u v : Nat} {l : List Nat} {L : Int} (h : Walk A u v l L) : u < A.N → d u ≠ INF → d u + L < INF → d v ≤ d u + L := by
  induction h with
  | nil v => intro _ _ _; omega
  | @cons i v l L hi hr ih =>
    intro hu' hf hL
    have hL0 : 0 ≤ L := hr.pos hA
    have h1 := hu.rel i hi hf
    have := ih (hA.t i hi.1) (by omega) (by omega)
    omega
/-- a finite distance is the length of a walk from an end -/
theorem walk_of {A : Arcs} {W : Int} {src : Nat → Prop} {d : Nat → Int} (hA : A.Ok W) (h : IsDist A W src d) : ∀ (k v : Nat), v < A.N → d v = k → d v ≠ INF → ∃ u l, u < A.N ∧ src u ∧ Walk A u v l (d v) := by
  intro k
  induction k using Nat.strongRecOn with
  | _ k ih =>
    intro v hv hk hf
    by_cases hs : src v
    · exact ⟨v, [], hv, hs, by rw [h.up.zero v hv hs]; exact .nil v⟩
    · obtain ⟨i, hi, ht, hfs, e⟩ := h.tight hA hv hf hs
      have hw : 1 ≤ A.wt i := by
        rcases hA.wt i hi.1 with h | h
        · exact absurd h hi.2
        · exact h.1
      have h0 := (h.lo.pos (A.s i) (hA.s i hi.1)).1
      obtain ⟨u, l, hu, hsu, hw⟩ := ih (d (A.s i)).toNat (by omega) (A.s i) (hA.s i hi.1) (by omega) hfs
      refine ⟨u, l ++ [i], hu, hsu, ?_⟩
      rw [e, ← ht]
      exact hw.snoc hi rfl
/-! ### the reversed graph -/
def Arcs.rev (A : Arcs) : Arcs := { A with s := A.t, t := A.s }
theorem Arcs.Ok.rev {A : Arcs} {W : Int} (h : A.Ok W) : A.rev.Ok W := ⟨h.t, h.s, h.wt⟩
theorem Walk.rev {A : Arcs} {u v : Nat} {l : List Nat} {L : Int} (h : Walk A u v l L) : Walk A.rev v u l.reverse L := by
  induction h with
  | nil v => exact .nil v
  | @cons i v l L hi hr ih =>
    rw [List.reverse_cons, Int.add_comm]
    exact Walk.snoc (A := A.rev) (i := i) hi ih rfl
/-- from x to v is as far as, in the reversed graph, from v to x -/
theorem rev_eq {A : Arcs} {W : Int} (hA : A.Ok W) (hW : A.N * W < INF) {a b : Nat} (ha : a < A.N) (hb : b < A.N) {d e : Nat → Int} (h : IsDist A W (· = a) d) (h' : IsDist A.rev W (· = b) e) : d b = e a := by
  have key : ∀ {A : Arcs} (hA : A.Ok W) (hW : A.N * W < INF) {a b : Nat} (ha : a < A.N) (hb : b < A.N) {d e : Nat → Int} (h : IsDist A W (· = a) d) (h' : IsDist A.rev W (· = b) e), e a ≤ d b := by
    intro A hA hW a b ha hb d e h h'
    by_cases hf : d b = INF
    · rw [hf]; exact (h'.lo.pos a ha).2
    · have h0 := (h.lo.pos b hb).1
      obtain ⟨u, l, hu, rfl, hw⟩ := walk_of hA h (d b).toNat b hb (by omega) hf
      have hz : e b = 0 := h'.up.zero b hb rfl
      have hbd : d b ≤ A.N * W := (h.bnd b hb).resolve_left hf
      have := walk_ge hA.rev h'.up (fun v hv => (h'.lo.pos v hv).2) hw.rev hb (by rw [hz]; decide) (by omega)
      omega
  have h1 := key hA hW ha hb h h'
  have h2 := key hA.rev hW hb ha h' (show IsDist A.rev.rev W _ _ from h)
  omega
end Sp
end Go.Proofs.Ytmacmlgjejdhpaa
