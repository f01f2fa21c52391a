import Derived.WalkKit
/- Shortest distances: what they are, that they are unique, that they are the lengths of walks. Plain law: no program is named here. -/
namespace Go.Proofs.Ytodhpooddmeghaa
set_option linter.unusedSimpArgs false
set_option linter.unusedVariables false
namespace Sp
abbrev INF : Int := 4611686018427387904
/-- arcs 0 .. M-1 between nodes 0 .. N-1; an arc of weight INF is closed -/
structure Arcs where
  N : Nat
  M : Nat
  s : Nat → Nat
  t : Nat → Nat
  wt : Nat → Int
structure Arcs.Ok (A : Arcs) (W : Int) : Prop where
  s : ∀ i, i < A.M → A.s i < A.N
  t : ∀ i, i < A.M → A.t i < A.N
  wt : ∀ i, i < A.M → A.wt i = INF ∨ (1 ≤ A.wt i ∧ A.wt i ≤ W)
/-- open -/
def Arcs.Op (A : Arcs) (i : Nat) : Prop := i < A.M ∧ A.wt i ≠ INF
/-- nothing is too long: what the ends and the arcs force holds -/
structure Upper (A : Arcs) (src : Nat → Prop) (d : Nat → Int) : Prop where
  zero : ∀ v, v < A.N → src v → d v = 0
  rel : ∀ i, A.Op i → d (A.s i) ≠ INF → d (A.t i) ≤ d (A.s i) + A.wt i
/-- nothing is too short: each finite distance has a reason -/
structure Lower (A : Arcs) (src : Nat → Prop) (d : Nat → Int) : Prop where
  pos : ∀ v, v < A.N → 0 ≤ d v ∧ d v ≤ INF
  why : ∀ v, v < A.N → d v ≠ INF → (src v ∧ 0 ≤ d v) ∨ ∃ i, A.Op i ∧ A.t i = v ∧ d (A.s i) ≠ INF ∧ d (A.s i) + A.wt i ≤ d v
structure IsDist (A : Arcs) (W : Int) (src : Nat → Prop) (d : Nat → Int) : Prop where
  up : Upper A src d
  lo : Lower A src d
  bnd : ∀ v, v < A.N → d v = INF ∨ d v ≤ A.N * W
/-- a lower one of a graph with no more, and no faster arcs, is nowhere less -/
theorem le_of {A B : Arcs} {W : Int} {src src' : Nat → Prop} {d d' : Nat → Int} (hA : A.Ok W) (hB : B.Ok W) (hN : A.N = B.N) (hu : Upper A src d) (hl : Lower B src' d')
    (hs : ∀ v, v < A.N → src' v → src v) (ha : ∀ i, B.Op i → ∃ j, A.Op j ∧ A.s j = B.s i ∧ A.t j = B.t i ∧ A.wt j ≤ B.wt i) (hd : ∀ v, v < A.N → d v ≤ INF) : ∀ v, v < A.N → d v ≤ d' v := by
  have key : ∀ (k : Nat) (v : Nat), v < A.N → d' v = k → d' v ≠ INF → d v ≤ d' v := by
    intro k
    induction k using Nat.strongRecOn with
    | _ k ih =>
      intro v hv hk hf
      rcases hl.why v (hN ▸ hv) hf with ⟨hs', h0⟩ | ⟨i, hi, ht, hfs, hle⟩
      · rw [hu.zero v hv (hs v hv hs')]; exact h0
      · obtain ⟨j, hj, e1, e2, e3⟩ := ha i hi
        have hsN : B.s i < B.N := hB.s i hi.1
        have hw : 1 ≤ B.wt i := by
          rcases hB.wt i hi.1 with h | h
          · exact absurd h hi.2
          · exact h.1
        have h0 := (hl.pos (B.s i) hsN).1
        have := ih (d' (B.s i)).toNat (by omega) (B.s i) (hN ▸ hsN) (by omega) hfs
        have hdf : d (A.s j) ≠ INF := by
          rw [e1]
          have h1 := (hl.pos (B.s i) hsN).2
          omega
        have h2 := hu.rel j hj hdf
        rw [e1, e2, ht] at h2
        omega
  intro v hv
  by_cases hf : d' v = INF
  · rw [hf]; exact hd v hv
  · have h0 := (hl.pos v (hN ▸ hv)).1
    exact key (d' v).toNat v hv (by omega) hf
theorem IsDist.unique {A : Arcs} {W : Int} {src : Nat → Prop} {d d' : Nat → Int} (hA : A.Ok W) (h : IsDist A W src d) (h' : IsDist A W src d') : ∀ v, v < A.N → d v = d' v := fun v hv => by
  have h1 := le_of hA hA rfl h.up h'.lo (fun _ _ h => h) (fun i hi => ⟨i, hi, rfl, rfl, Int.le_refl _⟩) (fun v hv => (h.lo.pos v hv).2) v hv
  have h2 := le_of hA hA rfl h'.up h.lo (fun _ _ h => h) (fun i hi => ⟨i, hi, rfl, rfl, Int.le_refl _⟩) (fun v hv => (h'.lo.pos v hv).2) v hv
  omega
/-- the same for ends that are the same nodes -/
theorem IsDist.src {A : Arcs} {W : Int} {src src' : Nat → Prop} {d : Nat → Int} (h : IsDist A W src d) (e : ∀ v, v < A.N → (src v ↔ src' v)) : IsDist A W src' d :=
  ⟨⟨fun v hv hs => h.up.zero v hv ((e v hv).2 hs), h.up.rel⟩, ⟨h.lo.pos, fun v hv hf => (h.lo.why v hv hf).imp (fun h => ⟨(e v hv).1 h.1, h.2⟩) id⟩, h.bnd⟩
/-- a finite distance has a tight arc -/
theorem IsDist.tight {A : Arcs} {W : Int} {src : Nat → Prop} {d : Nat → Int} (hA : A.Ok W) (h : IsDist A W src d) {v : Nat} (hv : v < A.N) (hf : d v ≠ INF) (hs : ¬ src v) : ∃ i, A.Op i ∧ A.t i = v ∧ d (A.s i) ≠ INF ∧ d v = d (A.s i) + A.wt i := by
  rcases h.lo.why v hv hf with h1 | ⟨i, hi, ht, hfs, hle⟩
  · exact absurd h1.1 hs
  · have := h.up.rel i hi hfs
    rw [ht] at this
    exact ⟨i, hi, ht, hfs, by omega⟩
/-! ### walks -/
/-- a walk over open arcs from u to v: its arcs, its length -/
inductive Walk (A : Arcs) : Nat → Nat → List Nat → Int → Prop
  | nil (v : Nat) : Walk A v v [] 0
  | cons {i v : Nat} {l : List Nat} {L : Int} (h : A.Op i) (hr : Walk A (A.t i) v l L) : Walk A (A.s i) v (i :: l) (A.wt i + L)
theorem Walk.snoc {A : Arcs} {u i : Nat} {l : List Nat} {L : Int} (h : A.Op i) : ∀ {v}, Walk A u v l L → v = A.s i → Walk A u (A.t i) (l ++ [i]) (L + A.wt i) := fun hw e => by
  induction hw with
  | nil v => subst e; have := Walk.cons h (Walk.nil (A := A) (A.t i)); rw [Int.zero_add]; rw [Int.add_zero] at this; exact this
  | cons hj hr ih => rw [Int.add_assoc]; exact Walk.cons hj (ih e)
theorem Walk.lt {A : Arcs} {W : Int} (hA : A.Ok W) {u v : Nat} {l : List Nat} {L : Int} (h : Walk A u v l L) (hu : u < A.N) : v < A.N := by
  induction h with
  | nil v => exact hu
  | cons hi hr ih => exact ih (hA.t _ hi.1)
theorem Walk.pos {A : Arcs} {W : Int} (hA : A.Ok W) {u v : Nat} {l : List Nat} {L : Int} (h : Walk A u v l L) : 0 ≤ L := by
  induction h with
  | nil => omega
  | cons hj _ ih =>
    rcases hA.wt _ hj.1 with h | h
    · exact absurd h hj.2
    · omega
/-- no walk is shorter -/
theorem walk_ge {A : Arcs} {W : Int} {src : Nat → Prop} {d : Nat → Int} (hA : A.Ok W) (hu : Upper A src d) (hd : ∀ v, v < A.N → d v ≤ INF) {u v : Nat} {l : List Nat} {L : Int} (h : Walk A u v l L) : u < A.N → d u ≠ INF → d u + L < INF → d v ≤ d u + L := by
  induction h with
  | nil v => intro _ _ _; omega
  | @cons i v l L hi hr ih =>
    intro hu' hf hL
    have hL0 : 0 ≤ L := hr.pos hA
    have h1 := hu.rel i hi hf
    have := ih (hA.t i hi.1) (by omega) (by omega)
    omega
/-- a finite distance is the length of a walk from an end -/
theorem walk_of {A : Arcs} {W : Int} {src : Nat → Prop} {d : Nat → Int} (hA : A.Ok W) (h : IsDist A W src d) : ∀ (k v : Nat), v < A.N → d v = k → d v ≠ INF → ∃ u l, u < A.N ∧ src u ∧ Walk A u v l (d v) := by
  intro k
  induction k using Nat.strongRecOn with
  | _ k ih =>
    intro v hv hk hf
    by_cases hs : src v
    · exact ⟨v, [], hv, hs, by rw [h.up.zero v hv hs]; exact .nil v⟩
    · obtain ⟨i, hi, ht, hfs, e⟩ := h.tight hA hv hf hs
      have hw : 1 ≤ A.wt i := by
        rcases hA.wt i hi.1 with h | h
        · exact absurd h hi.2
        · exact h.1
      have h0 := (h.lo.pos (A.s i) (hA.s i hi.1)).1
      obtain ⟨u, l, hu, hsu, hw⟩ := ih (d (A.s i)).toNat (by omega) (A.s i) (hA.s i hi.1) (by omega) hfs
      refine ⟨u, l ++ [i], hu, hsu, ?_⟩
      rw [e, ← ht]
      exact hw.snoc hi rfl
/-! ### the reversed graph -/
def Arcs.rev (A : Arcs) : Arcs := { A with s := A.t, t := A.s }
theorem Arcs.Ok.rev {A : Arcs} {W : Int} (h : A.Ok W) : A.rev.Ok W := ⟨h.t, h.s, h.wt⟩
theorem Walk.rev {A : Arcs} {u v : Nat} {l : List Nat} {L : Int} (h : Walk A u v l L) : Walk A.rev v u l.reverse L := by
  induction h with
  | nil v => exact .nil v
  | @cons i v l L hi hr ih =>
    rw [List.reverse_cons, Int.add_comm]
    exact Walk.snoc (A := A.rev) (i := i) hi ih rfl
/-- from x to v is as far as, in the reversed graph, from v to x -/
theorem rev_eq {A : Arcs} {W : Int} (hA : A.Ok W) (hW : A.N * W < INF) {a b : Nat} (ha : a < A.N) (hb : b < A.N) {d e : Nat → Int} (h : IsDist A W (· = a) d) (h' : IsDist A.rev W (· = b) e) : d b = e a := by
  have key : ∀ {A : Arcs} (hA : A.Ok W) (hW : A.N * W < INF) {a b : Nat} (ha : a < A.N) (hb : b < A.N) {d e : Nat → Int} (h : IsDist A W (· = a) d) (h' : IsDist A.rev W (· = b) e), e a ≤ d b := by
    intro A hA hW a b ha hb d e h h'
    by_cases hf : d b = INF
    · rw [hf]; exact (h'.lo.pos a ha).2
    · have h0 := (h.lo.pos b hb).1
      obtain ⟨u, l, hu, rfl, hw⟩ := walk_of hA h (d b).toNat b hb (by omega) hf
      have hz : e b = 0 := h'.up.zero b hb rfl
      have hbd : d b ≤ A.N * W := (h.bnd b hb).resolve_left hf
      have := walk_ge hA.rev h'.up (fun v hv => (h'.lo.pos v hv).2) hw.rev hb (by rw [hz]; decide) (by omega)
      omega
  have h1 := key hA hW ha hb h h'
  have h2 := key hA.rev hW hb ha h' (show IsDist A.rev.rev W _ _ from h)
  omega
end Sp
end Go.Proofs.Ytodhpooddmeghaa
namespace Go.Proofs.Ytodhpooddmeghaa
set_option linter.unusedSimpArgs false
set_option linter.unusedVariables false
namespace Sp
/-- entry v of a list of distances -/
def ix (d : List Int) (v : Nat) : Int := d[v]?.getD 0
theorem ix_get {d : List Int} {v : Nat} (h : v < d.length) : ix d v = d[v] := by unfold ix; rw [List.getElem?_eq_getElem h]; rfl
theorem ix_set {d : List Int} {u : Nat} {x : Int} (h : u < d.length) (v : Nat) : ix (d.set u x) v = if u = v then x else ix d v := by
  unfold ix
  rw [List.getElem?_set]
  split
  · rename_i e; subst e; first | (rw [if_pos h]; rfl) | rfl
  · rfl
/-- how many are finite -/
def cnt (d : List Int) : Nat := d.countP (fun x => x != INF)
theorem cnt_le (d : List Int) : cnt d ≤ d.length := List.countP_le_length
theorem cnt_set_le : ∀ {d : List Int} {u : Nat} {x : Int}, x ≠ INF → cnt d ≤ cnt (d.set u x)
  | [], _, _, _ => Nat.le_refl _
  | y :: d, 0, x, h => by
    unfold cnt; rw [List.set_cons_zero, List.countP_cons, List.countP_cons]
    have : (x != INF) = true := by simpa using h
    rw [this]; split <;> simp
  | y :: d, u + 1, x, h => by
    have := cnt_set_le (d := d) (u := u) h
    unfold cnt at this ⊢; rw [List.set_cons_succ, List.countP_cons, List.countP_cons]; omega
theorem cnt_set_lt : ∀ {d : List Int} {u : Nat} {x : Int}, x ≠ INF → u < d.length → ix d u = INF → cnt d + 1 ≤ cnt (d.set u x)
  | [], _, _, _, h, _ => absurd h (by simp)
  | y :: d, 0, x, h, _, e => by
    have e : y = INF := by simpa [ix] using e
    unfold cnt; rw [List.set_cons_zero, List.countP_cons, List.countP_cons]
    have : (x != INF) = true := by simpa using h
    rw [this, e]; simp
  | y :: d, u + 1, x, h, hl, e => by
    have := cnt_set_lt (d := d) (u := u) h (by simpa using hl) (by simpa [ix] using e)
    unfold cnt at this ⊢; rw [List.set_cons_succ, List.countP_cons, List.countP_cons]; omega
theorem sum_set : ∀ {d : List Int} {u : Nat} {x : Int}, u < d.length → (d.set u x).sum = d.sum - ix d u + x
  | [], _, _, h => absurd h (by simp)
  | y :: d, 0, x, _ => by simp [ix]; omega
  | y :: d, u + 1, x, h => by
    have := sum_set (d := d) (u := u) (x := x) (by simpa using h)
    simp [ix] at this ⊢; omega
theorem sum_nonneg : ∀ {d : List Int}, (∀ v, v < d.length → 0 ≤ ix d v) → 0 ≤ d.sum
  | [], _ => by simp
  | y :: d, h => by
    have h0 := h 0 (by simp)
    have := sum_nonneg (d := d) (fun v hv => by have := h (v + 1) (by simpa using hv); simpa [ix] using this)
    simp [ix] at h0 ⊢; omega
/-- what holds all along; ex: the arcs that are neither relaxed nor in the queue -/
structure SInv (A : Arcs) (W : Int) (src : Nat → Prop) (d : List Int) (q : List Int) (ex : Nat → Prop) : Prop where
  len : d.length = A.N
  bnd : ∀ v, v < A.N → 0 ≤ ix d v ∧ (ix d v = INF ∨ ix d v ≤ cnt d * W)
  zero : ∀ v, v < A.N → src v → ix d v = 0
  why : ∀ v, v < A.N → ix d v ≠ INF → src v ∨ ∃ i, A.Op i ∧ A.t i = v ∧ ix d (A.s i) ≠ INF ∧ ix d (A.s i) + A.wt i ≤ ix d v
  ent : ∀ x ∈ q, ∃ (v : Nat) (δ : Int), v < A.N ∧ x = δ * 4096 + v ∧ ix d v ≤ δ ∧ δ ≤ A.N * W
  rel : ∀ i, A.Op i → ix d (A.s i) ≠ INF → ix d (A.t i) ≤ ix d (A.s i) + A.wt i ∨ ix d (A.s i) * 4096 + A.s i ∈ q ∨ ex i
section
variable {A : Arcs} {W : Int} {src : Nat → Prop} {d q q' : List Int} {ex ex' : Nat → Prop}
theorem SInv.le (h : SInv A W src d q ex) (hW : 0 ≤ W) {v : Nat} (hv : v < A.N) (hf : ix d v ≠ INF) : 0 ≤ ix d v ∧ ix d v ≤ A.N * W := by
  have h1 := h.bnd v hv
  refine ⟨h1.1, Int.le_trans (h1.2.resolve_left hf) (Int.mul_le_mul_of_nonneg_right ?_ hW)⟩
  have := cnt_le d; rw [h.len] at this; omega
theorem SInv.mono (h : SInv A W src d q ex) (hx : ∀ i, A.Op i → ex i → ex' i) (hq : ∀ x, x ∈ q ↔ x ∈ q') : SInv A W src d q' ex' :=
  ⟨h.len, h.bnd, h.zero, h.why, fun x hx' => h.ent x ((hq x).2 hx'), fun i hi hf => (h.rel i hi hf).imp id (Or.imp (hq _).1 (hx i hi))⟩
/-- an entry that is out of date is taken -/
theorem SInv.old (hA : A.Ok W) (h : SInv A W src d q (fun _ => False)) {x δ : Int} {v : Nat} (hq : ∀ y, y ∈ q ↔ y = x ∨ y ∈ q') (hx : x = δ * 4096 + v) (hv : v < 4096) (hN : A.N ≤ 4096) (hlt : ix d v < δ) : SInv A W src d q' (fun _ => False) :=
  ⟨h.len, h.bnd, h.zero, h.why, fun y hy => h.ent y ((hq y).2 (.inr hy)), fun i hi hf => (h.rel i hi hf).imp id (Or.imp (fun hm => by
    rcases (hq _).1 hm with e | hm
    · exfalso
      have := hA.s i hi.1
      have e2 : A.s i = v := by omega
      rw [e2] at e; omega
    · exact hm) id)⟩
/-- an entry that is up to date is taken: its arcs are to be looked at -/
theorem SInv.take (hA : A.Ok W) (h : SInv A W src d q (fun _ => False)) {x δ : Int} {v : Nat} (hq : ∀ y, y ∈ q ↔ y = x ∨ y ∈ q') (hx : x = δ * 4096 + v) (hv : v < 4096) (hN : A.N ≤ 4096) : SInv A W src d q' (fun i => A.s i = v) :=
  ⟨h.len, h.bnd, h.zero, h.why, fun y hy => h.ent y ((hq y).2 (.inr hy)), fun i hi hf => (h.rel i hi hf).imp id fun hm => by
    rcases hm with hm | hm
    · rcases (hq _).1 hm with e | hm
      · right
        have := hA.s i hi.1
        show A.s i = v
        omega
      · exact .inl hm
    · exact hm.elim⟩
/-- an arc of the node is relaxed -/
theorem SInv.step (hA : A.Ok W) (hW : A.N * W < INF) (hW0 : 0 ≤ W) {i : Nat} {δ : Int} (h : SInv A W src d q ex) (hi : A.Op i) (hδ : ix d (A.s i) = δ) (hf : δ ≠ INF) (hlt : δ + A.wt i < ix d (A.t i))
    (hq : ∀ y, y ∈ q' ↔ y = (δ + A.wt i) * 4096 + A.t i ∨ y ∈ q) : SInv A W src (d.set (A.t i) (δ + A.wt i)) q' (fun j => ex j ∧ j ≠ i) ∧ A.s i ≠ A.t i ∧ δ + A.wt i ≤ A.N * W ∧ 0 ≤ δ + A.wt i := by
  have ht := hA.t i hi.1
  have hs := hA.s i hi.1
  have htl : A.t i < d.length := by rw [h.len]; exact ht
  have hw : 1 ≤ A.wt i ∧ A.wt i ≤ W := (hA.wt i hi.1).resolve_left hi.2
  have hne : A.s i ≠ A.t i := fun e => by rw [← e, hδ] at hlt; omega
  have h0 := h.bnd _ hs
  rw [hδ] at h0
  have hbs := h0.2.resolve_left hf
  have hbt := h.bnd _ ht
  have hcl : (cnt (d.set (A.t i) (δ + A.wt i)) : Int) ≤ A.N := by have := cnt_le (d.set (A.t i) (δ + A.wt i)); rw [List.length_set, h.len] at this; omega
  have hb : δ + A.wt i ≠ INF → δ + A.wt i ≤ cnt (d.set (A.t i) (δ + A.wt i)) * W := fun hnf => by
    by_cases hti : ix d (A.t i) = INF
    · have := cnt_set_lt (d := d) hnf htl hti
      have h2 : ((cnt d : Int) + 1) * W ≤ cnt (d.set (A.t i) (δ + A.wt i)) * W := Int.mul_le_mul_of_nonneg_right (by omega) hW0
      rw [Int.add_mul] at h2; omega
    · have h1 := hbt.2.resolve_left hti
      have := cnt_set_le (d := d) (u := A.t i) hnf
      have h2 : (cnt d : Int) * W ≤ cnt (d.set (A.t i) (δ + A.wt i)) * W := Int.mul_le_mul_of_nonneg_right (by omega) hW0
      omega
  have hnf : δ + A.wt i ≠ INF := fun e => by
    rcases hbt.2 with h1 | h1
    · omega
    · have h2 : (cnt d : Int) * W ≤ A.N * W := Int.mul_le_mul_of_nonneg_right (by have := cnt_le d; rw [h.len] at this; omega) hW0
      omega
  have hb' := hb hnf
  have hcN : (cnt (d.set (A.t i) (δ + A.wt i)) : Int) * W ≤ A.N * W := Int.mul_le_mul_of_nonneg_right hcl hW0
  refine ⟨⟨by rw [List.length_set]; exact h.len, fun v hv => ?_, fun v hv hsv => ?_, fun v hv hfv => ?_, fun x hx => ?_, fun j hj hfj => ?_⟩, hne, by omega, by omega⟩
  · rw [ix_set htl]
    split
    · exact ⟨by omega, .inr hb'⟩
    · have h1 := h.bnd v hv
      refine ⟨h1.1, h1.2.imp id fun h1 => ?_⟩
      have := cnt_set_le (d := d) (u := A.t i) hnf
      have h2 : (cnt d : Int) * W ≤ cnt (d.set (A.t i) (δ + A.wt i)) * W := Int.mul_le_mul_of_nonneg_right (by omega) hW0
      omega
  · rw [ix_set htl]
    split
    · rename_i e; subst e
      have := h.zero _ hv hsv
      omega
    · exact h.zero v hv hsv
  · have step : ∀ u, ix (d.set (A.t i) (δ + A.wt i)) u ≤ ix d u := fun u => by
      rw [ix_set htl]; split
      · rename_i e; subst e; omega
      · exact Int.le_refl _
    by_cases e : A.t i = v
    · right
      refine ⟨i, hi, e, ?_, ?_⟩
      · rw [ix_set htl, if_neg (fun h => hne h.symm), hδ]; exact hf
      · rw [ix_set htl, if_neg (fun h => hne h.symm), hδ, ix_set htl, if_pos e]; exact Int.le_refl _
    · rw [ix_set htl, if_neg e] at hfv ⊢
      refine (h.why v hv hfv).imp id ?_
      rintro ⟨j, hj, h1, h2, h3⟩
      have h4 := step (A.s j)
      have h5 := (h.le hW0 (hA.s j hj.1) h2)
      exact ⟨j, hj, h1, fun e => by omega, by omega⟩
  · rcases (hq x).1 hx with e | hx
    · refine ⟨A.t i, δ + A.wt i, ht, e, ?_, by omega⟩
      rw [ix_set htl, if_pos rfl]; exact Int.le_refl _
    · obtain ⟨v, δ', h1, h2, h3, h4⟩ := h.ent x hx
      refine ⟨v, δ', h1, h2, ?_, h4⟩
      rw [ix_set htl]; split
      · rename_i e; subst e; omega
      · exact h3
  · by_cases e : A.t i = A.s j
    · right; left
      rw [ix_set htl, if_pos e, hq]
      left; rw [e]
    · have es : ix (d.set (A.t i) (δ + A.wt i)) (A.s j) = ix d (A.s j) := by rw [ix_set htl, if_neg e]
      rw [es] at hfj ⊢
      by_cases eji : j = i
      · subst eji
        left
        rw [ix_set htl, if_pos rfl, hδ]; exact Int.le_refl _
      · rcases h.rel j hj hfj with h1 | h1 | h1
        · left
          rw [ix_set htl]; split
          · rename_i e2; rw [← e2] at h1; omega
          · exact h1
        · exact .inr (.inl ((hq _).2 (.inr h1)))
        · exact .inr (.inr ⟨h1, eji⟩)
/-- an arc of the node needs nothing -/
theorem SInv.pass {i : Nat} {δ : Int} (h : SInv A W src d q ex) (hδ : ix d (A.s i) = δ) (hn : ¬ (A.wt i ≠ INF ∧ δ + A.wt i < ix d (A.t i))) : SInv A W src d q (fun j => ex j ∧ j ≠ i) :=
  ⟨h.len, h.bnd, h.zero, h.why, h.ent, fun j hj hf => by
    rcases h.rel j hj hf with h1 | h1 | h1
    · exact .inl h1
    · exact .inr (.inl h1)
    · by_cases e : j = i
      · subst e
        left
        rw [hδ]
        exact Int.not_lt.1 fun hlt => hn ⟨hj.2, hlt⟩
      · exact .inr (.inr ⟨h1, e⟩)⟩
/-- the queue is empty: these are the distances -/
theorem SInv.done (hA : A.Ok W) (hW : A.N * W < INF) (hW0 : 0 ≤ W) (h : SInv A W src d [] (fun _ => False)) : IsDist A W src (ix d) :=
  ⟨⟨h.zero, fun i hi hf => (h.rel i hi hf).elim id (fun h => h.elim (fun h => by cases h) (fun h => h.elim))⟩,
   ⟨fun v hv => by
      have h1 := h.bnd v hv
      by_cases hf : ix d v = INF
      · rw [hf]; exact ⟨by decide, Int.le_refl _⟩
      · have := h.le hW0 hv hf; omega,
    fun v hv hf => (h.why v hv hf).imp (fun hs => ⟨hs, (h.bnd v hv).1⟩) id⟩,
   fun v hv => by
    by_cases hf : ix d v = INF
    · exact .inl hf
    · exact .inr (h.le hW0 hv hf).2⟩
/-- nothing yet -/
theorem SInv.start (hA : A.Ok W) : SInv A W (fun _ => False) (List.replicate A.N INF) [] (fun _ => False) := by
  have e : ∀ v, v < A.N → ix (List.replicate A.N INF) v = INF := fun v hv => by unfold ix; simp [hv]
  exact ⟨List.length_replicate, fun v hv => by rw [e v hv]; exact ⟨by decide, .inl rfl⟩, fun v _ h => h.elim, fun v hv h => absurd (e v hv) h, fun x h => (by cases h), fun i hi hf => absurd (e _ (hA.s i hi.1)) hf⟩
/-- an end that is at 0 already -/
theorem SInv.again {u : Nat} (h : SInv A W src d q ex) (h0 : ix d u = 0) : SInv A W (fun v => src v ∨ v = u) d q ex :=
  ⟨h.len, h.bnd, fun v hv hs => by
    rcases hs with hs | rfl
    · exact h.zero v hv hs
    · exact h0, fun v hv hf => (h.why v hv hf).imp .inl id, h.ent, h.rel⟩
/-- a new end -/
theorem SInv.put (hA : A.Ok W) (hW0 : 0 ≤ W) {u : Nat} (hu : u < A.N) (h : SInv A W src d q ex) (hq : ∀ y, y ∈ q' ↔ y = (u : Int) ∨ y ∈ q) : SInv A W (fun v => src v ∨ v = u) (d.set u 0) q' ex := by
  have hul : u < d.length := by rw [h.len]; exact hu
  have hnf : (0 : Int) ≠ INF := by decide
  have le : ∀ v, v < A.N → ix (d.set u 0) v ≤ ix d v ∧ 0 ≤ ix (d.set u 0) v := fun v hv => by
    have := (h.bnd v hv).1
    rw [ix_set hul]; split
    · rename_i e; subst e; omega
    · omega
  have hc := cnt_set_le (d := d) (u := u) hnf
  have hcw : (cnt d : Int) * W ≤ cnt (d.set u 0) * W := Int.mul_le_mul_of_nonneg_right (by omega) hW0
  have hc0 : 0 ≤ (cnt (d.set u 0) : Int) * W := Int.mul_nonneg (by omega) hW0
  have hN0 : 0 ≤ (A.N : Int) * W := Int.mul_nonneg (by omega) hW0
  refine ⟨by rw [List.length_set]; exact h.len, fun v hv => ?_, fun v hv hs => ?_, fun v hv hf => ?_, fun x hx => ?_, fun j hj hf => ?_⟩
  · rw [ix_set hul]; split
    · exact ⟨Int.le_refl _, .inr hc0⟩
    · have := h.bnd v hv
      exact ⟨this.1, this.2.imp id fun h => by omega⟩
  · rw [ix_set hul]; split
    · rfl
    · rename_i e
      rcases hs with hs | hs
      · exact h.zero v hv hs
      · exact absurd hs.symm e
  · by_cases e : u = v
    · exact .inl (.inr e.symm)
    · rw [ix_set hul, if_neg e] at hf
      rcases h.why v hv hf with h1 | ⟨i, hi, h1, h2, h3⟩
      · exact .inl (.inl h1)
      · right
        have h5 := le (A.s i) (hA.s i hi.1)
        have h6 := h.bnd (A.s i) (hA.s i hi.1)
        have h7 : ix (d.set u 0) v = ix d v := by rw [ix_set hul, if_neg e]
        refine ⟨i, hi, h1, ?_, by rw [h7]; omega⟩
        intro e8
        rw [ix_set hul] at e8
        split at e8
        · exact hnf e8
        · exact h2 e8
  · rcases (hq x).1 hx with e | hx
    · exact ⟨u, 0, hu, by omega, by rw [ix_set hul, if_pos rfl]; exact Int.le_refl _, hN0⟩
    · obtain ⟨v, δ', h1, h2, h3, h4⟩ := h.ent x hx
      exact ⟨v, δ', h1, h2, Int.le_trans (le v h1).1 h3, h4⟩
  · by_cases e : u = A.s j
    · right; left
      rw [ix_set hul, if_pos e, hq]; left; omega
    · have es : ix (d.set u 0) (A.s j) = ix d (A.s j) := by rw [ix_set hul, if_neg e]
      rw [es] at hf ⊢
      rcases h.rel j hj hf with h1 | h1 | h1
      · exact .inl (Int.le_trans (le _ (hA.t j hj.1)).1 h1)
      · exact .inr (.inl ((hq _).2 (.inr h1)))
      · exact .inr (.inr h1)
end
end Sp
end Go.Proofs.Ytodhpooddmeghaa
namespace Go.Proofs.Ytodhpooddmeghaa
set_option linter.unusedSimpArgs false
set_option linter.unusedVariables false
namespace Sp
theorem SInv.ends {A : Arcs} {W : Int} {src src' : Nat → Prop} {d q : List Int} {ex : Nat → Prop} (h : SInv A W src d q ex) (e : ∀ v, v < A.N → (src v ↔ src' v)) : SInv A W src' d q ex :=
  ⟨h.len, h.bnd, fun v hv hs => h.zero v hv ((e v hv).2 hs), fun v hv hf => (h.why v hv hf).imp (e v hv).1 id, h.ent, h.rel⟩
def rlx (A : Arcs) (d : List Int) (i : Nat) : List Int := if A.wt i < INF ∧ ix d (A.s i) < INF ∧ ix d (A.s i) + A.wt i < ix d (A.t i) then d.set (A.t i) (ix d (A.s i) + A.wt i) else d
def upTo (A : Arcs) (d : List Int) (k : Nat) : List Int := (List.range k).foldl (rlx A) d
theorem upTo_succ (A : Arcs) (d : List Int) (k : Nat) : upTo A d (k + 1) = rlx A (upTo A d k) k := by unfold upTo; rw [List.range_succ, List.foldl_append]; rfl
def rounds (A : Arcs) (d : List Int) : Nat → List Int
  | 0 => d
  | k + 1 => upTo A (rounds A d k) A.M
/-- 0 at the ends, infinite elsewhere -/
def init1 (N : Nat) (d : List Int) (e : Int) : List Int := if 0 ≤ e ∧ e < N then d.set e.toNat 0 else d
def init (N : Nat) (ends : List Int) : List Int := ends.foldl (init1 N) (List.replicate N INF)
theorem init_snoc (N : Nat) (ends : List Int) (e : Int) : init N (ends ++ [e]) = init1 N (init N ends) e := by unfold init; rw [List.foldl_append]; rfl
theorem init_len (N : Nat) (ends : List Int) : (init N ends).length = N := by
  unfold init
  have : ∀ (l : List Int) (d : List Int), (l.foldl (init1 N) d).length = d.length := by
    intro l
    induction l with
    | nil => intro d; rfl
    | cons e l ih => intro d; rw [List.foldl_cons, ih]; unfold init1; split <;> simp
  rw [this, List.length_replicate]
theorem init_ix (N : Nat) (ends : List Int) (v : Nat) (hv : v < N) : ix (init N ends) v = if (v : Int) ∈ ends then 0 else INF := by
  have key : ∀ (l : List Int) (d : List Int), d.length = N → ix (l.foldl (init1 N) d) v = if (v : Int) ∈ l then 0 else ix d v := by
    intro l
    induction l with
    | nil => intro d _; simp
    | cons e l ih =>
      intro d hd
      rw [List.foldl_cons, ih _ (by unfold init1; split <;> simp [hd])]
      by_cases hm : (v : Int) ∈ l
      · simp [hm]
      · simp only [hm, if_false, List.mem_cons, or_false]
        unfold init1
        by_cases he : (v : Int) = e
        · rw [if_pos he, if_pos (by omega), ix_set (by omega), if_pos (by omega)]
        · rw [if_neg he]
          split
          · rw [ix_set (by omega), if_neg (by omega)]
          · rfl
  unfold init
  rw [key _ _ List.length_replicate]
  have : ix (List.replicate N INF) v = INF := by unfold ix; simp [hv]
  rw [this]
/-- how many nodes are nearer -/
noncomputable def rank (A : Arcs) (D : Nat → Int) (v : Nat) : Nat := (List.range A.N).countP (fun u => decide (D u < D v))
theorem rank_lt {A : Arcs} {D : Nat → Int} {u v : Nat} (hu : u < A.N) (h : D u < D v) : rank A D u < rank A D v := by
  unfold rank
  have key : ∀ (l : List Nat), l.countP (fun x => decide (D x < D u)) + (if u ∈ l then 1 else 0) ≤ l.countP (fun x => decide (D x < D v)) := by
    intro l
    induction l with
    | nil => simp
    | cons y l ih =>
      rw [List.countP_cons, List.countP_cons]
      by_cases hy : y = u
      · subst hy
        have h1 : decide (D y < D y) = false := by simp
        have h2 : decide (D y < D v) = true := by simpa using h
        simp only [h1, h2, List.mem_cons, true_or, if_true]
        split at ih <;> simp at ih ⊢ <;> omega
      · have h3 : decide (D y < D u) = true → decide (D y < D v) = true := by simp; omega
        have h4 : (u ∈ y :: l) ↔ u ∈ l := by simp [Ne.symm hy]
        simp only [h4]
        have h6 : (if decide (D y < D u) = true then 1 else 0) ≤ (if decide (D y < D v) = true then 1 else 0) := by
          by_cases h5 : decide (D y < D u) = true
          · rw [if_pos h5, if_pos (h3 h5)]; exact Nat.le_refl _
          · rw [if_neg h5]; exact Nat.zero_le _
        omega
  have := key (List.range A.N)
  rw [if_pos (List.mem_range.2 hu)] at this
  omega
theorem rank_le {A : Arcs} {D : Nat → Int} {v : Nat} (hv : v < A.N) : rank A D v < A.N := by
  unfold rank
  have h : ∀ (l : List Nat), v ∈ l → l.countP (fun u => decide (D u < D v)) < l.length := by
    intro l
    induction l with
    | nil => intro h; cases h
    | cons y l ih =>
      intro hm
      rw [List.countP_cons, List.length_cons]
      have hle : l.countP (fun u => decide (D u < D v)) ≤ l.length := List.countP_le_length
      rcases List.mem_cons.1 hm with e | hm
      · subst e; simp; omega
      · have := ih hm; split <;> omega
  have := h (List.range A.N) (List.mem_range.2 hv)
  simpa using this
/-- what holds in round k, when the arcs below j have been looked at -/
structure BInv (A : Arcs) (src : Nat → Prop) (D : Nat → Int) (d : List Int) (k j : Nat) : Prop where
  len : d.length = A.N
  ge : ∀ v, v < A.N → D v ≤ ix d v ∧ ix d v ≤ INF
  zero : ∀ v, v < A.N → src v → ix d v = 0
  old : ∀ v, v < A.N → D v ≠ INF → rank A D v < k → ix d v = D v
  new : ∀ i, i < j → A.Op i → D (A.s i) ≠ INF → rank A D (A.s i) < k → ix d (A.t i) ≤ D (A.s i) + A.wt i
section
variable {A : Arcs} {W : Int} {src : Nat → Prop} {D : Nat → Int} {d : List Int} {k j : Nat}
theorem BInv.step (hA : A.Ok W) (hD : IsDist A W src D) (h : BInv A src D d k j) (hj : j < A.M) : BInv A src D (rlx A d j) k (j + 1) := by
  have hs := hA.s j hj
  have ht := hA.t j hj
  have htl : A.t j < d.length := by rw [h.len]; exact ht
  unfold rlx
  split
  · rename_i hc
    obtain ⟨h1, h2, h3⟩ := hc
    have hop : A.Op j := ⟨hj, by omega⟩
    have hw := (hA.wt j hj).resolve_left hop.2
    have gs := h.ge _ hs
    have gt := h.ge _ ht
    have hle : D (A.t j) ≤ ix d (A.s j) + A.wt j := by
      have := hD.up.rel j hop (by omega)
      omega
    refine ⟨by rw [List.length_set]; exact h.len, fun v hv => ?_, fun v hv hsv => ?_, fun v hv hf hr => ?_, fun i hi hoi hfi hri => ?_⟩
    · rw [ix_set htl]; split
      · rename_i e; subst e; omega
      · exact h.ge v hv
    · rw [ix_set htl]; split
      · rename_i e; subst e
        have := h.zero _ hv hsv
        have h0 := (hD.lo.pos _ hs).1
        omega
      · exact h.zero v hv hsv
    · rw [ix_set htl]; split
      · rename_i e; subst e
        have := h.old _ hv hf hr
        omega
      · exact h.old v hv hf hr
    · rw [ix_set htl]; split
      · rename_i e
        by_cases eij : i = j
        · subst eij
          have := h.old _ (hA.s i hj) hfi hri
          omega
        · have := h.new i (by omega) hoi hfi hri
          rw [← e] at this
          omega
      · rename_i e
        have : i ≠ j := fun e' => e (by rw [e'])
        exact h.new i (by omega) hoi hfi hri
  · rename_i hc
    refine ⟨h.len, h.ge, h.zero, h.old, fun i hi hoi hfi hri => ?_⟩
    by_cases eij : i = j
    · subst eij
      have e := h.old _ hs hfi hri
      have h5 := (hD.lo.pos _ hs).2
      have h6 := hA.wt i hj
      have h7 := hoi.2
      rw [e] at hc
      have hwt : A.wt i < INF ∨ INF < A.wt i := by omega
      rcases hwt with hwt | hwt
      · exact Int.not_lt.1 fun hlt => hc ⟨hwt, by omega, hlt⟩
      · have := (h.ge _ ht).2
        have h0 := (hD.lo.pos _ hs).1
        omega
    · exact h.new i (by omega) hoi hfi hri
theorem BInv.upTo (hA : A.Ok W) (hD : IsDist A W src D) (h : BInv A src D d k 0) : ∀ j, j ≤ A.M → BInv A src D (upTo A d j) k j
  | 0, _ => h
  | j + 1, hj => by rw [upTo_succ]; exact (BInv.upTo hA hD h j (by omega)).step hA hD hj
theorem BInv.next (hA : A.Ok W) (hD : IsDist A W src D) (h : BInv A src D d k A.M) : BInv A src D d (k + 1) 0 :=
  ⟨h.len, h.ge, h.zero, fun v hv hf hr => by
    have hg := h.ge v hv
    rcases hD.lo.why v hv hf with ⟨hs, _⟩ | ⟨i, hi, ht, hfs, hle⟩
    · rw [h.zero v hv hs, hD.up.zero v hv hs]
    · have hw : 1 ≤ A.wt i := by
        rcases hA.wt i hi.1 with h | h
        · exact absurd h hi.2
        · exact h.1
      have := rank_lt (A := A) (D := D) (hA.s i hi.1) (v := v) (by omega)
      have h2 := h.new i hi.1 hi hfs (by omega)
      rw [ht] at h2
      omega, fun i hi => absurd hi (by omega)⟩
theorem BInv.rounds (hA : A.Ok W) (hD : IsDist A W src D) (h : BInv A src D d 0 0) : ∀ k, BInv A src D (rounds A d k) k 0
  | 0 => h
  | k + 1 => ((BInv.rounds hA hD h k).upTo hA hD A.M (Nat.le_refl _)).next hA hD
theorem BInv.init (hD : IsDist A W src D) (ends : List Int) (he : ∀ v, v < A.N → (src v ↔ (v : Int) ∈ ends)) : BInv A src D (init A.N ends) 0 0 :=
  ⟨init_len _ _, fun v hv => by
    rw [init_ix _ _ _ hv]
    split
    · rename_i h; rw [hD.up.zero v hv ((he v hv).2 h)]; exact ⟨Int.le_refl _, by decide⟩
    · exact ⟨(hD.lo.pos v hv).2, Int.le_refl _⟩,
   fun v hv hs => by rw [init_ix _ _ _ hv, if_pos ((he v hv).1 hs)], fun v hv _ h => absurd h (by omega), fun i hi => absurd hi (by omega)⟩
/-- the reference's rounds come to the distances -/
theorem rounds_eq (hA : A.Ok W) (hD : IsDist A W src D) (ends : List Int) (he : ∀ v, v < A.N → (src v ↔ (v : Int) ∈ ends)) (v : Nat) (hv : v < A.N) : ix (rounds A (init A.N ends) A.N) v = D v := by
  have h := (BInv.init hD ends he).rounds hA hD A.N
  by_cases hf : D v = INF
  · have := h.ge v hv; omega
  · exact h.old v hv hf (rank_le hv)
theorem ext_ix {a b : List Int} (h : a.length = b.length) (e : ∀ v, v < a.length → ix a v = ix b v) : a = b := List.ext_getElem h fun i h1 h2 => by
  have := e i h1
  rwa [ix_get h1, ix_get h2] at this
theorem rounds_list (hA : A.Ok W) {ends : List Int} {dl : List Int} (hl : dl.length = A.N) (hD : IsDist A W (fun v => (v : Int) ∈ ends) (ix dl)) : rounds A (init A.N ends) A.N = dl := by
  have h := (BInv.init hD ends (fun _ _ => Iff.rfl)).rounds hA hD A.N
  exact ext_ix (by rw [h.len, hl]) fun v hv => rounds_eq hA hD ends (fun _ _ => Iff.rfl) v (by rw [← h.len]; exact hv)
end
/-- all along: between 0 and INF -/
def Bd (N : Nat) (d : List Int) : Prop := d.length = N ∧ ∀ v, v < N → 0 ≤ ix d v ∧ ix d v ≤ INF
theorem Bd.rlx {A : Arcs} {W : Int} (hA : A.Ok W) {d : List Int} (h : Bd A.N d) {j : Nat} (hj : j < A.M) : Bd A.N (rlx A d j) := by
  unfold Sp.rlx
  split
  · rename_i hc
    refine ⟨by rw [List.length_set]; exact h.1, fun v hv => ?_⟩
    rw [ix_set (by rw [h.1]; exact hA.t j hj)]
    split
    · have := h.2 _ (hA.s j hj)
      have h1 := h.2 _ (hA.t j hj)
      have := hA.wt j hj
      omega
    · exact h.2 v hv
  · exact h
theorem Bd.init (N : Nat) (ends : List Int) : Bd N (init N ends) := ⟨init_len _ _, fun v hv => by rw [init_ix _ _ _ hv]; split <;> decide⟩
end Sp
end Go.Proofs.Ytodhpooddmeghaa
