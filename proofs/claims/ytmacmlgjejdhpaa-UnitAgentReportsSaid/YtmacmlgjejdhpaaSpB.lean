/- Distances by rounds over all arcs (the reference). Plain law: no program is named here. -/
import Derived.Test.YtmacmlgjejdhpaaSpA
namespace Go.Proofs.Ytmacmlgjejdhpaa
set_option linter.unusedSimpArgs false
set_option linter.unusedVariables false
namespace Sp
theorem SInv.ends {A : Arcs} {W : Int} {src src' : Nat → Prop} {d q : List Int} {ex : Nat → Prop} (h : SInv A W src d q ex) (e : ∀ v, v < A.N → (src v ↔ src' v)) : SInv A W src' d q ex :=
  ⟨h.len, h.bnd, fun v hv hs => h.zero v hv ((e v hv).2 hs), fun v hv hf => (h.why v hv hf).imp (e v hv).1 id, h.ent, h.rel⟩
def rlx (A : Arcs) (d : List Int) (i : Nat) : List Int := if A.wt i < INF ∧ ix d (A.s i) < INF ∧ ix d (A.s i) + A.wt i < ix d (A.t i) then d.set (A.t i) (ix d (A.s i) + A.wt i) else d
def upTo (A : Arcs) (d : List Int) (k : Nat) : List Int := (List.range k).foldl (rlx A) d
theorem upTo_succ (A : Arcs) (d : List Int) (k : Nat) : upTo A d (k + 1) = rlx A (upTo A d k) k := by unfold upTo; rw [List.range_succ, List.foldl_append]; rfl
def rounds (A : Arcs) (d : List Int) : Nat → List Int
  | 0 => d
  | k + 1 => upTo A (rounds A d k) A.M
/-- 0 at the ends, infinite elsewhere -/
def init1 (N : Nat) (d : List Int) (e : Int) : List Int := if 0 ≤ e ∧ e < N then d.set e.toNat 0 else d
def init (N : Nat) (ends : List Int) : List Int := ends.foldl (init1 N) (List.replicate N INF)
theorem init_snoc (N : Nat) (ends : List Int) (e : Int) : init N (ends ++ [e]) = init1 N (init N ends) e := by unfold init; rw [List.foldl_append]; rfl
theorem init_len (N : Nat) (ends : List Int) : (init N ends).length = N := by
  unfold init
  have : ∀ (l : List Int) (d : List Int), (l.foldl (init1 N) d).length = d.length := by
    intro l
    induction l with
    | nil => intro d; rfl
    | cons e l ih => intro d; rw [List.foldl_cons, ih]; unfold init1; split <;> simp
  rw [this, List.length_replicate]
theorem init_ix (N : Nat) (ends : List Int) (v : Nat) (hv : v < N) : ix (init N ends) v = if (v : Int) ∈ ends then 0 else INF := by
  have key : ∀ (l : List Int) (d : List Int), d.length = N → ix (l.foldl (init1 N) d) v = if (v : Int) ∈ l then 0 else ix d v := by
    intro l
    induction l with
    | nil => intro d _; simp
    | cons e l ih =>
      intro d hd
      rw [List.foldl_cons, ih _ (by unfold init1; split <;> simp [hd])]
      by_cases hm : (v : Int) ∈ l
      · simp [hm]
      · simp only [hm, if_false, List.mem_cons, or_false]
        unfold init1
        by_cases he : (v : Int) = e
        · rw [if_pos he, if_pos (by omega), ix_set (by omega), if_pos (by omega)]
        · rw [if_neg he]
          split
          · rw [ix_set (by omega), if_neg (by omega)]
          · rfl
  unfold init
  rw [key _ _ List.length_replicate]
  have : ix (List.replicate N INF) v = INF := by unfold ix; simp [hv]
  rw [this]
/-- how many nodes are nearer -/
noncomputable def rank (A : Arcs) (D : Nat → Int) (v : Nat) : Nat := (List.range A.N).countP (fun u => decide (D u < D v))
theorem rank_lt {A : Arcs} {D : Nat → Int} {u v : Nat} (hu : u < A.N) (h : D u < D v) : rank A D u < rank A D v := by
  unfold rank
  have key : ∀ (l : List Nat), l.countP (fun x => decide (D x < D u)) + (if u ∈ l then 1 else 0) ≤ l.countP (fun x => decide (D x < D v)) := by
    intro l
    induction l with
    | nil => simp
    | cons y l ih =>
      rw [List.countP_cons, List.countP_cons]
      by_cases hy : y = u
      · subst hy
        have h1 : decide (D y < D y) = false := by simp
        have h2 : decide (D y < D v) = true := by simpa using h
        simp only [h1, h2, List.mem_cons, true_or, if_true]
        split at ih <;> simp at ih ⊢ <;> omega
      · have h3 : decide (D y < D u) = true → decide (D y < D v) = true := by simp; omega
        have h4 : (u ∈ y :: l) ↔ u ∈ l := by simp [Ne.symm hy]
        simp only [h4]
        have h6 : (if decide (D y < D u) = true then 1 else 0) ≤ (if decide (D y < D v) = true then 1 else 0) := by
          by_cases h5 : decide (D y < D u) = true
          · rw [if_pos h5, if_pos (h3 h5)]; exact Nat.le_refl _
          · rw [if_neg h5]; exact Nat.zero_le _
        omega
  have := key (List.range A.N)
  rw [if_pos (List.mem_range.2 hu)] at this
  omega
theorem rank_le {A : Arcs} {D : Nat → Int} {v : Nat} (hv : v < A.N) : rank A D v < A.N := by
  unfold rank
  have h : ∀ (l : List Nat), v ∈ l → l.countP (fun u => decide (D u < D v)) < l.length := by
    intro l
    induction l with
    | nil => intro h; cases h
    | cons y l ih =>
      intro hm
      rw [List.countP_cons, List.length_cons]
      have hle : l.countP (fun u => decide (D u < D v)) ≤ l.length := List.countP_le_length
      rcases List.mem_cons.1 hm with e | hm
      · subst e; simp; omega
      · have := ih hm; split <;> omega
  have := h (List.range A.N) (List.mem_range.2 hv)
  simpa using this
/-- what holds in round k, when the arcs below j have been looked at -/
structure BInv (A : Arcs) (src : Nat → Prop) (D : Nat → Int) (d : List Int) (k j : Nat) : Prop where
  len : d.length = A.N
  ge : ∀ v, v < A.N → D v ≤ ix d v ∧ ix d v ≤ INF
  zero : ∀ v, v < A.N → src v → ix d v = 0
  old : ∀ v, v < A.N → D v ≠ INF → rank A D v < k → ix d v = D v
  new : ∀ i, i < j → A.Op i → D (A.s i) ≠ INF → rank A D (A.s i) < k → ix d (A.t i) ≤ D (A.s i) + A.wt i
section
variable {A : Arcs} {W : Int} {src : Nat → Prop} {D : Nat → Int} {d : List Int} {k j : Nat}
theorem BInv.step (hA : A.Ok W) (hD : IsDist A W src D) (h : BInv A src D d k j) (hj : j < A.M) : BInv A src D (rlx A d j) k (j + 1) := by
  have hs := hA.s j hj
  have ht := hA.t j hj
  have htl : A.t j < d.length := by rw [h.len]; exact ht
  unfold rlx
  split
  · rename_i hc
    obtain ⟨h1, h2, h3⟩ := hc
    have hop : A.Op j := ⟨hj, by omega⟩
    have hw := (hA.wt j hj).resolve_left hop.2
    have gs := h.ge _ hs
    have gt := h.ge _ ht
    have hle : D (A.t j) ≤ ix d (A.s j) + A.wt j := by
      have := hD.up.rel j hop (by omega)
      omega
    refine ⟨by rw [List.length_set]; exact h.len, fun v hv => ?_, fun v hv hsv => ?_, fun v hv hf hr => ?_, fun i hi hoi hfi hri => ?_⟩
    · rw [ix_set htl]; split
      · rename_i e; subst e; omega
      · exact h.ge v hv
    · rw [ix_set htl]; split
      · rename_i e; subst e
        have := h.zero _ hv hsv
        have h0 := (hD.lo.pos _ hs).1
        omega
      · exact h.zero v hv hsv
    · rw [ix_set htl]; split
      · rename_i e; subst e
        have := h.old _ hv hf hr
        omega
      · exact h.old v hv hf hr
    · rw [ix_set htl]; split
      · rename_i e
        by_cases eij : i = j
        · subst eij
          have := h.old _ (hA.s i hj) hfi hri
          omega
        · have := h.new i (by omega) hoi hfi hri
          rw [← e] at this
          omega
      · rename_i e
        have : i ≠ j := fun e' => e (by rw [e'])
        exact h.new i (by omega) hoi hfi hri
  · rename_i hc
    refine ⟨h.len, h.ge, h.zero, h.old, fun i hi hoi hfi hri => ?_⟩
    by_cases eij : i = j
    · subst eij
      have e := h.old _ hs hfi hri
      have h5 := (hD.lo.pos _ hs).2
      have h6 := hA.wt i hj
      have h7 := hoi.2
      rw [e] at hc
      have hwt : A.wt i < INF ∨ INF < A.wt i := by omega
      rcases hwt with hwt | hwt
      · exact Int.not_lt.1 fun hlt => hc ⟨hwt, by omega, hlt⟩
      · have := (h.ge _ ht).2
        have h0 := (hD.lo.pos _ hs).1
        omega
    · exact h.new i (by omega) hoi hfi hri
theorem BInv.upTo (hA : A.Ok W) (hD : IsDist A W src D) (h : BInv A src D d k 0) : ∀ j, j ≤ A.M → BInv A src D (upTo A d j) k j
  | 0, _ => h
  | j + 1, hj => by rw [upTo_succ]; exact (BInv.upTo hA hD h j (by omega)).step hA hD hj
theorem BInv.next (hA : A.Ok W) (hD : IsDist A W src D) (h : BInv A src D d k A.M) : BInv A src D d (k + 1) 0 :=
  ⟨h.len, h.ge, h.zero, fun v hv hf hr => by
    have hg := h.ge v hv
    rcases hD.lo.why v hv hf with ⟨hs, _⟩ | ⟨i, hi, ht, hfs, hle⟩
    · rw [h.zero v hv hs, hD.up.zero v hv hs]
    · have hw : 1 ≤ A.wt i := by
        rcases hA.wt i hi.1 with h | h
        · exact absurd h hi.2
        · exact h.1
      have := rank_lt (A := A) (D := D) (hA.s i hi.1) (v := v) (by omega)
      have h2 := h.new i hi.1 hi hfs (by omega)
      rw [ht] at h2
      omega, fun i hi => absurd hi (by omega)⟩
theorem BInv.rounds (hA : A.Ok W) (hD : IsDist A W src D) (h : BInv A src D d 0 0) : ∀ k, BInv A src D (rounds A d k) k 0
  | 0 => h
  | k + 1 => ((BInv.rounds hA hD h k).upTo hA hD A.M (Nat.le_refl _)).next hA hD
theorem BInv.init (hD : IsDist A W src D) (ends : List Int) (he : ∀ v, v < A.N → (src v ↔ (v : Int) ∈ ends)) : BInv A src D (init A.N ends) 0 0 :=
  ⟨init_len _ _, fun v hv => by
    rw [init_ix _ _ _ hv]
    split
    · rename_i h; rw [hD.up.zero v hv ((he v hv).2 h)]; exact ⟨Int.le_refl _, by decide⟩
    · exact ⟨(hD.lo.pos v hv).2, Int.le_refl _⟩,
   fun v hv hs => by rw [init_ix _ _ _ hv, if_pos ((he v hv).1 hs)], fun v hv _ h => absurd h (by omega), fun i hi => absurd hi (by omega)⟩
/-- the reference's rounds come to the distances -/
theorem rounds_eq (hA : A.Ok W) (hD : IsDist A W src D) (ends : List Int) (he : ∀ v, v < A.N → (src v ↔ (v : Int) ∈ ends)) (v : Nat) (hv : v < A.N) : ix (rounds A (init A.N ends) A.N) v = D v := by
  have h := (BInv.init hD ends he).rounds hA hD A.N
  by_cases hf : D v = INF
  · have := h.ge v hv; omega
  · exact h.old v hv hf (rank_le hv)
theorem ext_ix {a b : List Int} (h : a.length = b.length) (e : ∀ v, v < a.length → ix a v = ix b v) : a = b := List.ext_getElem h fun i h1 h2 => by
  have := e i h1
  rwa [ix_get h1, ix_get h2] at this
theorem rounds_list (hA : A.Ok W) {ends : List Int} {dl : List Int} (hl : dl.length = A.N) (hD : IsDist A W (fun v => (v : Int) ∈ ends) (ix dl)) : rounds A (init A.N ends) A.N = dl := by
  have h := (BInv.init hD ends (fun _ _ => Iff.rfl)).rounds hA hD A.N
  exact ext_ix (by rw [h.len, hl]) fun v hv => rounds_eq hA hD ends (fun _ _ => Iff.rfl) v (by rw [← h.len]; exact hv)
end
/-- all along: between 0 and INF -/
def Bd (N : Nat) (d : List Int) : Prop := d.length = N ∧ ∀ v, v < N → 0 ≤ ix d v ∧ ix d v ≤ INF
theorem Bd.rlx {A : Arcs} {W : Int} (hA : A.Ok W) {d : List Int} (h : Bd A.N d) {j : Nat} (hj : j < A.M) : Bd A.N (rlx A d j) := by
  unfold Sp.rlx
  split
  · rename_i hc
    refine ⟨by rw [List.length_set]; exact h.1, fun v hv => ?_⟩
    rw [ix_set (by rw [h.1]; exact hA.t j hj)]
    split
    · have := h.2 _ (hA.s j hj)
      have h1 := h.2 _ (hA.t j hj)
      have := hA.wt j hj
      omega
    · exact h.2 v hv
  · exact h
theorem Bd.init (N : Nat) (ends : List Int) : Bd N (init N ends) := ⟨init_len _ _, fun v hv => by rw [init_ix _ _ _ hv]; split <;> decide⟩
end Sp
end Go.Proofs.Ytmacmlgjejdhpaa
