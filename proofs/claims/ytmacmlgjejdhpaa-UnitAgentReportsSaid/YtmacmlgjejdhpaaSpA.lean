/- The search with a queue: what holds all along. Plain law: no program is named here. -/
import Derived.Test.YtmacmlgjejdhpaaSp
namespace Go.Proofs.Ytmacmlgjejdhpaa
set_option linter.unusedSimpArgs false
set_option linter.unusedVariables false
namespace Sp
/-- entry v of a list of distances -/
def ix (d : List Int) (v : Nat) : Int := d[v]?.getD 0
theorem ix_get {d : List Int} {v : Nat} (h : v < d.length) : ix d v = d[v] := by unfold ix; rw [List.getElem?_eq_getElem h]; rfl
theorem ix_set {d : List Int} {u : Nat} {x : Int} (h : u < d.length) (v : Nat) : ix (d.set u x) v = if u = v then x else ix d v := by
  unfold ix
  rw [List.getElem?_set]
  split
  · rename_i e; subst e; first | (rw [if_pos h]; rfl) | rfl
  · rfl
/-- how many are finite -/
def cnt (d : List Int) : Nat := d.countP (fun x => x != INF)
theorem cnt_le (d : List Int) : cnt d ≤ d.length := List.countP_le_length
theorem cnt_set_le : ∀ {d : List Int} {u : Nat} {x : Int}, x ≠ INF → cnt d ≤ cnt (d.set u x)
  | [], _, _, _ => Nat.le_refl _
  | y :: d, 0, x, h => by
    unfold cnt; rw [List.set_cons_zero, List.countP_cons, List.countP_cons]
    have : (x != INF) = true := by simpa using h
    rw [this]; split <;> simp
  | y :: d, u + 1, x, h => by
    have := cnt_set_le (d := d) (u := u) h
    unfold cnt at this ⊢; rw [List.set_cons_succ, List.countP_cons, List.countP_cons]; omega
theorem cnt_set_lt : ∀ {d : List Int} {u : Nat} {x : Int}, x ≠ INF → u < d.length → ix d u = INF → cnt d + 1 ≤ cnt (d.set u x)
  | [], _, _, _, h, _ => absurd h (by simp)
  | y :: d, 0, x, h, _, e => by
    have e : y = INF := by simpa [ix] using e
    unfold cnt; rw [List.set_cons_zero, List.countP_cons, List.countP_cons]
    have : (x != INF) = true := by simpa using h
    rw [this, e]; simp
  | y :: d, u + 1, x, h, hl, e => by
    have := cnt_set_lt (d := d) (u := u) h (by simpa using hl) (by simpa [ix] using e)
    unfold cnt at this ⊢; rw [List.set_cons_succ, List.countP_cons, List.countP_cons]; omega
theorem sum_set : ∀ {d : List Int} {u : Nat} {x : Int}, u < d.length → (d.set u x).sum = d.sum - ix d u + x
  | [], _, _, h => absurd h (by simp)
  | y :: d, 0, x, _ => by simp [ix]; omega
  | y :: d, u + 1, x, h => by
    have := sum_set (d := d) (u := u) (x := x) (by simpa using h)
    simp [ix] at this ⊢; omega
theorem sum_nonneg : ∀ {d : List Int}, (∀ v, v < d.length → 0 ≤ ix d v) → 0 ≤ d.sum
  | [], _ => by simp
  | y :: d, h => by
    have h0 := h 0 (by simp)
    have := sum_nonneg (d := d) (fun v hv => by have := h (v + 1) (by simpa using hv); simpa [ix] using this)
    simp [ix] at h0 ⊢; omega
/-- what holds all along; ex: the arcs that are neither relaxed nor in the queue -/
structure SInv (A : Arcs) (W : Int) (src : Nat → Prop) (d : List Int) (q : List Int) (ex : Nat → Prop) : Prop where
  len : d.length = A.N
  bnd : ∀ v, v < A.N → 0 ≤ ix d v ∧ (ix d v = INF ∨ ix d v ≤ cnt d * W)
  zero : ∀ v, v < A.N → src v → ix d v = 0
  why : ∀ v, v < A.N → ix d v ≠ INF → src v ∨ ∃ i, A.Op i ∧ A.t i = v ∧ ix d (A.s i) ≠ INF ∧ ix d (A.s i) + A.wt i ≤ ix d v
  ent : ∀ x ∈ q, ∃ (v : Nat) (δ : Int), v < A.N ∧ x = δ * 4096 + v ∧ ix d v ≤ δ ∧ δ ≤ A.N * W
  rel : ∀ i, A.Op i → ix d (A.s i) ≠ INF → ix d (A.t i) ≤ ix d (A.s i) + A.wt i ∨ ix d (A.s i) * 4096 + A.s i ∈ q ∨ ex i
section
variable {A : Arcs} {W : Int} {src : Nat → Prop} {d q q' : List Int} {ex ex' : Nat → Prop}
theorem SInv.le (h : SInv A W src d q ex) (hW : 0 ≤ W) {v : Nat} (hv : v < A.N) (hf : ix d v ≠ INF) : 0 ≤ ix d v ∧ ix d v ≤ A.N * W := by
  have h1 := h.bnd v hv
  refine ⟨h1.1, Int.le_trans (h1.2.resolve_left hf) (Int.mul_le_mul_of_nonneg_right ?_ hW)⟩
  have := cnt_le d; rw [h.len] at this; omega
theorem SInv.mono (h : SInv A W src d q ex) (hx : ∀ i, A.Op i → ex i → ex' i) (hq : ∀ x, x ∈ q ↔ x ∈ q') : SInv A W src d q' ex' :=
  ⟨h.len, h.bnd, h.zero, h.why, fun x hx' => h.ent x ((hq x).2 hx'), fun i hi hf => (h.rel i hi hf).imp id (Or.imp (hq _).1 (hx i hi))⟩
/-- an entry that is out of date is taken -/
theorem SInv.old (hA : A.Ok W) (h : SInv A W src d q (fun _ => False)) {x δ : Int} {v : Nat} (hq : ∀ y, y ∈ q ↔ y = x ∨ y ∈ q') (hx : x = δ * 4096 + v) (hv : v < 4096) (hN : A.N ≤ 4096) (hlt : ix d v < δ) : SInv A W src d q' (fun _ => False) :=
  ⟨h.len, h.bnd, h.zero, h.why, fun y hy => h.ent y ((hq y).2 (.inr hy)), fun i hi hf => (h.rel i hi hf).imp id (Or.imp (fun hm => by
    rcases (hq _).1 hm with e | hm
    · exfalso
      have := hA.s i hi.1
      have e2 : A.s i = v := by omega
      rw [e2] at e; omega
    · exact hm) id)⟩
/-- an entry that is up to date is taken: its arcs are to be looked at -/
theorem SInv.take (hA : A.Ok W) (h : SInv A W src d q (fun _ => False)) {x δ : Int} {v : Nat} (hq : ∀ y, y ∈ q ↔ y = x ∨ y ∈ q') (hx : x = δ * 4096 + v) (hv : v < 4096) (hN : A.N ≤ 4096) : SInv A W src d q' (fun i => A.s i = v) :=
  ⟨h.len, h.bnd, h.zero, h.why, fun y hy => h.ent y ((hq y).2 (.inr hy)), fun i hi hf => (h.rel i hi hf).imp id fun hm => by
    rcases hm with hm | hm
    · rcases (hq _).1 hm with e | hm
      · right
        have := hA.s i hi.1
        show A.s i = v
        omega
      · exact .inl hm
    · exact hm.elim⟩
/-- an arc of the node is relaxed -/
theorem SInv.step (hA : A.Ok W) (hW : A.N * W < INF) (hW0 : 0 ≤ W) {i : Nat} {δ : Int} (h : SInv A W src d q ex) (hi : A.Op i) (hδ : ix d (A.s i) = δ) (hf : δ ≠ INF) (hlt : δ + A.wt i < ix d (A.t i))
    (hq : ∀ y, y ∈ q' ↔ y = (δ + A.wt i) * 4096 + A.t i ∨ y ∈ q) : SInv A W src (d.set (A.t i) (δ + A.wt i)) q' (fun j => ex j ∧ j ≠ i) ∧ A.s i ≠ A.t i ∧ δ + A.wt i ≤ A.N * W ∧ 0 ≤ δ + A.wt i := by
  have ht := hA.t i hi.1
  have hs := hA.s i hi.1
  have htl : A.t i < d.length := by rw [h.len]; exact ht
  have hw : 1 ≤ A.wt i ∧ A.wt i ≤ W := (hA.wt i hi.1).resolve_left hi.2
  have hne : A.s i ≠ A.t i := fun e => by rw [← e, hδ] at hlt; omega
  have h0 := h.bnd _ hs
  rw [hδ] at h0
  have hbs := h0.2.resolve_left hf
  have hbt := h.bnd _ ht
  have hcl : (cnt (d.set (A.t i) (δ + A.wt i)) : Int) ≤ A.N := by have := cnt_le (d.set (A.t i) (δ + A.wt i)); rw [List.length_set, h.len] at this; omega
  have hb : δ + A.wt i ≠ INF → δ + A.wt i ≤ cnt (d.set (A.t i) (δ + A.wt i)) * W := fun hnf => by
    by_cases hti : ix d (A.t i) = INF
    · have := cnt_set_lt (d := d) hnf htl hti
      have h2 : ((cnt d : Int) + 1) * W ≤ cnt (d.set (A.t i) (δ + A.wt i)) * W := Int.mul_le_mul_of_nonneg_right (by omega) hW0
      rw [Int.add_mul] at h2; omega
    · have h1 := hbt.2.resolve_left hti
      have := cnt_set_le (d := d) (u := A.t i) hnf
      have h2 : (cnt d : Int) * W ≤ cnt (d.set (A.t i) (δ + A.wt i)) * W := Int.mul_le_mul_of_nonneg_right (by omega) hW0
      omega
  have hnf : δ + A.wt i ≠ INF := fun e => by
    rcases hbt.2 with h1 | h1
    · omega
    · have h2 : (cnt d : Int) * W ≤ A.N * W := Int.mul_le_mul_of_nonneg_right (by have := cnt_le d; rw [h.len] at this; omega) hW0
      omega
  have hb' := hb hnf
  have hcN : (cnt (d.set (A.t i) (δ + A.wt i)) : Int) * W ≤ A.N * W := Int.mul_le_mul_of_nonneg_right hcl hW0
  refine ⟨⟨by rw [List.length_set]; exact h.len, fun v hv => ?_, fun v hv hsv => ?_, fun v hv hfv => ?_, fun x hx => ?_, fun j hj hfj => ?_⟩, hne, by omega, by omega⟩
  · rw [ix_set htl]
    split
    · exact ⟨by omega, .inr hb'⟩
    · have h1 := h.bnd v hv
      refine ⟨h1.1, h1.2.imp id fun h1 => ?_⟩
      have := cnt_set_le (d := d) (u := A.t i) hnf
      have h2 : (cnt d : Int) * W ≤ cnt (d.set (A.t i) (δ + A.wt i)) * W := Int.mul_le_mul_of_nonneg_right (by omega) hW0
      omega
  · rw [ix_set htl]
    split
    · rename_i e; subst e
      have := h.zero _ hv hsv
      omega
    · exact h.zero v hv hsv
  · have step : ∀ u, ix (d.set (A.t i) (δ + A.wt i)) u ≤ ix d u := fun u => by
      rw [ix_set htl]; split
      · rename_i e; subst e; omega
      · exact Int.le_refl _
    by_cases e : A.t i = v
    · right
      refine ⟨i, hi, e, ?_, ?_⟩
      · rw [ix_set htl, if_neg (fun h => hne h.symm), hδ]; exact hf
      · rw [ix_set htl, if_neg (fun h => hne h.symm), hδ, ix_set htl, if_pos e]; exact Int.le_refl _
    · rw [ix_set htl, if_neg e] at hfv ⊢
      refine (h.why v hv hfv).imp id ?_
      rintro ⟨j, hj, h1, h2, h3⟩
      have h4 := step (A.s j)
      have h5 := (h.le hW0 (hA.s j hj.1) h2)
      exact ⟨j, hj, h1, fun e => by omega, by omega⟩
  · rcases (hq x).1 hx with e | hx
    · refine ⟨A.t i, δ + A.wt i, ht, e, ?_, by omega⟩
      rw [ix_set htl, if_pos rfl]; exact Int.le_refl _
    · obtain ⟨v, δ', h1, h2, h3, h4⟩ := h.ent x hx
      refine ⟨v, δ', h1, h2, ?_, h4⟩
      rw [ix_set htl]; split
      · rename_i e; subst e; omega
      · exact h3
  · by_cases e : A.t i = A.s j
    · right; left
      rw [ix_set htl, if_pos e, hq]
      left; rw [e]
    · have es : ix (d.set (A.t i) (δ + A.wt i)) (A.s j) = ix d (A.s j) := by rw [ix_set htl, if_neg e]
      rw [es] at hfj ⊢
      by_cases eji : j = i
      · subst eji
        left
        rw [ix_set htl, if_pos rfl, hδ]; exact Int.le_refl _
      · rcases h.rel j hj hfj with h1 | h1 | h1
        · left
          rw [ix_set htl]; split
          · rename_i e2; rw [← e2] at h1; omega
          · exact h1
        · exact .inr (.inl ((hq _).2 (.inr h1)))
        · exact .inr (.inr ⟨h1, eji⟩)
/-- an arc of the node needs nothing -/
theorem SInv.pass {i : Nat} {δ : Int} (h : SInv A W src d q ex) (hδ : ix d (A.s i) = δ) (hn : ¬ (A.wt i ≠ INF ∧ δ + A.wt i < ix d (A.t i))) : SInv A W src d q (fun j => ex j ∧ j ≠ i) :=
  ⟨h.len, h.bnd, h.zero, h.why, h.ent, fun j hj hf => by
    rcases h.rel j hj hf with h1 | h1 | h1
    · exact .inl h1
    · exact .inr (.inl h1)
    · by_cases e : j = i
      · subst e
        left
        rw [hδ]
        exact Int.not_lt.1 fun hlt => hn ⟨hj.2, hlt⟩
      · exact .inr (.inr ⟨h1, e⟩)⟩
/-- the queue is empty: these are the distances -/
theorem SInv.done (hA : A.Ok W) (hW : A.N * W < INF) (hW0 : 0 ≤ W) (h : SInv A W src d [] (fun _ => False)) : IsDist A W src (ix d) :=
  ⟨⟨h.zero, fun i hi hf => (h.rel i hi hf).elim id (fun h => h.elim (fun h => by cases h) (fun h => h.elim))⟩,
   ⟨fun v hv => by
      have h1 := h.bnd v hv
      by_cases hf : ix d v = INF
      · rw [hf]; exact ⟨by decide, Int.le_refl _⟩
      · have := h.le hW0 hv hf; omega,
    fun v hv hf => (h.why v hv hf).imp (fun hs => ⟨hs, (h.bnd v hv).1⟩) id⟩,
   fun v hv => by
    by_cases hf : ix d v = INF
    · exact .inl hf
    · exact .inr (h.le hW0 hv hf).2⟩
/-- nothing yet -/
theorem SInv.start (hA : A.Ok W) : SInv A W (fun _ => False) (List.replicate A.N INF) [] (fun _ => False) := by
  have e : ∀ v, v < A.N → ix (List.replicate A.N INF) v = INF := fun v hv => by unfold ix; simp [hv]
  exact ⟨List.length_replicate, fun v hv => by rw [e v hv]; exact ⟨by decide, .inl rfl⟩, fun v _ h => h.elim, fun v hv h => absurd (e v hv) h, fun x h => (by cases h), fun i hi hf => absurd (e _ (hA.s i hi.1)) hf⟩
/-- an end that is at 0 already -/
theorem SInv.again {u : Nat} (h : SInv A W src d q ex) (h0 : ix d u = 0) : SInv A W (fun v => src v ∨ v = u) d q ex :=
  ⟨h.len, h.bnd, fun v hv hs => by
    rcases hs with hs | rfl
    · exact h.zero v hv hs
    · exact h0, fun v hv hf => (h.why v hv hf).imp .inl id, h.ent, h.rel⟩
/-- a new end -/
theorem SInv.put (hA : A.Ok W) (hW0 : 0 ≤ W) {u : Nat} (hu : u < A.N) (h : SInv A W src d q ex) (hq : ∀ y, y ∈ q' ↔ y = (u : Int) ∨ y ∈ q) : SInv A W (fun v => src v ∨ v = u) (d.set u 0) q' ex := by
  have hul : u < d.length := by rw [h.len]; exact hu
  have hnf : (0 : Int) ≠ INF := by decide
  have le : ∀ v, v < A.N → ix (d.set u 0) v ≤ ix d v ∧ 0 ≤ ix (d.set u 0) v := fun v hv => by
    have := (h.bnd v hv).1
    rw [ix_set hul]; split
    · rename_i e; subst e; omega
    · omega
  have hc := cnt_set_le (d := d) (u := u) hnf
  have hcw : (cnt d : Int) * W ≤ cnt (d.set u 0) * W := Int.mul_le_mul_of_nonneg_right (by omega) hW0
  have hc0 : 0 ≤ (cnt (d.set u 0) : Int) * W := Int.mul_nonneg (by omega) hW0
  have hN0 : 0 ≤ (A.N : Int) * W := Int.mul_nonneg (by omega) hW0
  refine ⟨by rw [List.length_set]; exact h.len, fun v hv => ?_, fun v hv hs => ?_, fun v hv hf => ?_, fun x hx => ?_, fun j hj hf => ?_⟩
  · rw [ix_set hul]; split
    · exact ⟨Int.le_refl _, .inr hc0⟩
    · have := h.bnd v hv
      exact ⟨this.1, this.2.imp id fun h => by omega⟩
  · rw [ix_set hul]; split
    · rfl
    · rename_i e
      rcases hs with hs | hs
      · exact h.zero v hv hs
      · exact absurd hs.symm e
  · by_cases e : u = v
    · exact .inl (.inr e.symm)
    · rw [ix_set hul, if_neg e] at hf
      rcases h.why v hv hf with h1 | ⟨i, hi, h1, h2, h3⟩
      · exact .inl (.inl h1)
      · right
        have h5 := le (A.s i) (hA.s i hi.1)
        have h6 := h.bnd (A.s i) (hA.s i hi.1)
        have h7 : ix (d.set u 0) v = ix d v := by rw [ix_set hul, if_neg e]
        refine ⟨i, hi, h1, ?_, by rw [h7]; omega⟩
        intro e8
        rw [ix_set hul] at e8
        split at e8
        · exact hnf e8
        · exact h2 e8
  · rcases (hq x).1 hx with e | hx
    · exact ⟨u, 0, hu, by omega, by rw [ix_set hul, if_pos rfl]; exact Int.le_refl _, hN0⟩
    · obtain ⟨v, δ', h1, h2, h3, h4⟩ := h.ent x hx
      exact ⟨v, δ', h1, h2, Int.le_trans (le v h1).1 h3, h4⟩
  · by_cases e : u = A.s j
    · right; left
      rw [ix_set hul, if_pos e, hq]; left; omega
    · have es : ix (d.set u 0) (A.s j) = ix d (A.s j) := by rw [ix_set hul, if_neg e]
      rw [es] at hf ⊢
      rcases h.rel j hj hf with h1 | h1 | h1
      · exact .inl (Int.le_trans (le _ (hA.t j hj.1)).1 h1)
      · exact .inr (.inl ((hq _).2 (.inr h1)))
      · exact .inr (.inr h1)
end
end Sp
end Go.Proofs.Ytmacmlgjejdhpaa
