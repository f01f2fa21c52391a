/- A region that draws its order, reads, and writes at its end alone: what reads is taken first, though the end writes where it read. No program is named here. -/
import Derived.Test.YtgpdodhegacndaaGi
namespace Go.Proofs.Ytgpdodhegacndaa
set_option linter.unusedSimpArgs false
set_option linter.unusedVariables false
open Go.RowKit
namespace Fw
variable {ds : List Deferred}
section
variable {P : Program} {Q : Exit → Act → World → Prop} {S : World → Prop} {n k : Nat} {ops : Array Oper} {o : Oper} {f : Fr} {w : World} {fuel i d : Nat} {listed : Array Bool} {v : Value}
/-- whatever order is picked; behind every operation but number k S holds -/
def wpL (P : Program) (ops : Array Oper) (Q : Exit → Act → World → Prop) (S : World → Prop) (k : Nat) : Nat → Array Bool → Act → World → Prop
  | 0, listed, a, w => Region.ready .any ops listed = [] ∧ Q .normal a w
  | fuel + 1, listed, a, w => (Region.ready .any ops listed = [] → Q .normal a w) ∧
    ∀ i ∈ Region.ready .any ops listed, wpOp P ops Q i (fun a' w' => (i = k ∨ S w') ∧ wpL P ops Q S k fuel (listed.setIfInBounds i true) a' w') a w
theorem wpL_any : ∀ (fuel : Nat) (listed : Array Bool) (a : Act) (w : World), wpL P ops Q S k fuel listed a w → wpAny P .any ops Q fuel listed a w
  | 0, _, _, _, h => h
  | fuel + 1, _, _, _, h => ⟨h.1, fun i hi => wpOp_mono (fun a' w' h' => wpL_any fuel _ a' w' h'.2) (h.2 i hi)⟩
theorem wpL_done {a : Act} (hr : Region.ready .any ops listed = []) (h : Q .normal a w) : ∀ fuel, wpL P ops Q S k fuel listed a w
  | 0 => ⟨hr, h⟩
  | _ + 1 => ⟨fun _ => h, by rw [hr]; simp⟩
theorem set_get {l : Array Bool} {j k : Nat} (h : j ≠ k) : (l.setIfInBounds j true).getD k true = l.getD k true := by
  simp only [Array.getD_eq_getD_getElem?, Array.getElem?_setIfInBounds, if_neg h]
/-- what waits for number i: marked, not listed; number k is among it -/
def waits (ops : Array Oper) (listed : Array Bool) (i k : Nat) (M : List Nat) : Bool :=
  M.contains k && M.all (fun x => !(listed.getD x true)) && M.all (fun j => Nat.beq j i || (match ops[j]? with | some o => o.after.toList.any (fun e => Region.binds .any e && M.contains e.on) | none => false))
theorem waits_keep {M : List Nat} (h : waits ops listed i k M = true) {j : Nat} (hj : j ∈ Region.ready .any ops listed) (hji : j ≠ i) : j ∉ M := fun hm => by
  unfold waits at h
  simp only [Bool.and_eq_true, List.all_eq_true] at h
  obtain ⟨⟨_, h1⟩, h2⟩ := h
  have h2 := h2 j hm
  obtain ⟨hjun, oj, hoj, hall⟩ := mem_ready.1 hj
  rw [hoj] at h2
  rw [Bool.or_eq_true] at h2
  rcases h2 with h2 | h2
  · exact hji (Nat.eq_of_beq_eq_true h2)
  · obtain ⟨e, he, hb⟩ := List.any_eq_true.1 h2
    rw [Bool.and_eq_true] at hb
    have h3 := hall e (by simpa using he) hb.1
    have h4 := h1 e.on (by simpa using hb.2)
    simp only [Bool.not_eq_true'] at h4
    rcases Nat.lt_or_ge e.on listed.size with h' | h'
    · simp [h'] at h3 h4; rw [h3] at h4; cases h4
    · simp [Array.getElem?_eq_none h'] at h4
theorem waits_set {M : List Nat} (h : waits ops listed i k M = true) {j : Nat} (hj : j ∉ M) : waits ops (listed.setIfInBounds j true) i k M = true := by
  unfold waits at h ⊢
  simp only [Bool.and_eq_true, List.all_eq_true] at h ⊢
  exact ⟨⟨h.1.1, fun x hx => by
    have hjx : j ≠ x := fun e => hj (by rw [e]; exact hx)
    rw [set_get hjx]; exact h.1.2 x hx⟩, h.2⟩
theorem wpL_take {oi : Oper} {i : Nat} {M : List Nat} (hi : ops[i]? = some oi) (hsel : ∀ (j : Nat) (o : Oper) cs b, ops[j]? = some o → o.op ≠ .select cs b) (hQ : ∀ c a w, Q (.panic c) (a.put oi.dst v) w → Q (.panic c) a w) :
    ∀ (fuel : Nat) (listed : Array Bool) (a : Act) (w : World), waits ops listed i k M = true →
      (∀ j oj, ops[j]? = some oj → j ≠ i → listed.getD j true = false → (∀ e ∈ oj.after, Region.binds .any e = true → e.on ≠ i) → oi.apart ops oj = true) →
      i ∈ Region.ready .any ops listed → YieldsIf P ops S oi v a → S w → wpL P ops Q S k fuel (listed.setIfInBounds i true) (a.put oi.dst v) w → wpL P ops Q S k (fuel + 1) listed a w
  | 0, listed, a, w, _, _, hr, hy, hS, H => by
    refine ⟨fun h => (by rw [h] at hr; cases hr), fun j hj => ?_⟩
    by_cases e : j = i
    · subst e; exact hy.wpOp hi hS ⟨.inr hS, H⟩
    · have := ready_mono hj e
      rw [H.1] at this; cases this
  | fuel + 1, listed, a, w, hw, hfree, hr, hy, hS, H => by
    refine ⟨fun h => (by rw [h] at hr; cases hr), fun j hj => ?_⟩
    by_cases e : j = i
    · subst e; exact hy.wpOp hi hS ⟨.inr hS, H⟩
    · obtain ⟨hjun, oj, hoj, hall⟩ := mem_ready.1 hj
      have hjM := waits_keep hw hj e
      have hjk : j ≠ k := fun c => by
        subst c
        unfold waits at hw
        simp only [Bool.and_eq_true] at hw
        exact hjM (by simpa using hw.1.1)
      have hnot : ∀ x ∈ oj.after, Region.binds .any x = true → x.on ≠ i := fun x hx hb heq => by
        have h1 := hall x hx hb
        have h0 := (mem_ready.1 hr).1
        rw [heq] at h1
        rcases Nat.lt_or_ge i listed.size with h' | h'
        · simp [h'] at h0 h1; rw [h0] at h1; cases h1
        · simp [Array.getElem?_eq_none h'] at h1
      have h2 := wpOp_putIf hoj (hfree j oj hoj e hjun hnot) (fun cs b => hsel i oi cs b hi) (fun cs b => hsel j oj cs b hoj) hQ hy (H.2 j (ready_mono hj e))
      refine wpOp_mono (fun a' w' h3 => ?_) h2
      have hSw : S w' := h3.2.1.resolve_left hjk
      exact ⟨.inr hSw, wpL_take hi hsel hQ fuel (listed.setIfInBounds j true) a' w' (waits_set hw hjM) (fun k ok hk hki hun hno => hfree k ok hk hki (by
        by_cases hjk : j = k
        · subst hjk; exact hjun
        · rw [set_get hjk] at hun; exact hun) hno) (ready_mono hr (Ne.symm e)) h3.1 hSw (by rw [Array.setIfInBounds_comm _ _ e]; exact h3.2.2)⟩
/-- the walk's words -/
def FLs (P : Program) (Q : Exit → Act → World → Prop) (S : World → Prop) (k n : Nat) (ds : List Deferred) (ops : Array Oper) (fuel : Nat) (listed : Array Bool) (f : Fr) (w : World) : Prop := S w → ∀ a, Has n ds f a → wpL P ops (NoPanic Q) S k fuel listed a w
theorem regionL {id : Nat} {ops : Array Oper} (k : Nat) (hm : P.follows .mixedOrders = true) (h : ∀ w', Below w.heap.size w w' → FLs P Q (Below w.heap.size w) k n ds ops ops.size (Array.replicate ops.size false) f w') : FC P Q n ds (.region id ops true) f w := fun a ha =>
  wp_region_noPanic (wp_region_any hm (wpL_any _ _ _ _ (h _ (drew_low w) (drew_low w) a ha)))
theorem lTake (i : Nat) (M : List Nat) (hi : ops[i]? = some o) (ho : o.dst = some d) (hs : Region.noSelect ops = true) (hf : Region.free .any ops listed i = true) (hr : (Region.ready .any ops listed).contains i = true) (hw : waits ops listed i k M = true) (hv : Yld P n ops f S o v) (hd : Nat.blt d n = true)
    (h : FLs P Q S k n ds ops fuel (listed.setIfInBounds i true) ((d, v) :: f) w) : FLs P Q S k n ds ops (fuel + 1) listed f w := fun hS a ha => by
  refine wpL_take hi (Region.noSelect_spec hs) (fun _ _ _ h => h) fuel listed a w hw (Region.free_spec hi hf) (by simpa using hr) (hv a ha) hS ?_
  rw [ho]
  exact h hS _ (ha.put hd v)
/-- what waits for number i, reckoned -/
def wset (ops : Array Oper) (i : Nat) : List Nat := (List.range ops.size).foldl (fun M j => if Nat.beq j i || (match ops[j]? with | some o => o.after.toList.any (fun e => Region.binds .any e && M.contains e.on) | none => false) then j :: M else M) []
theorem lTk (i : Nat) (hi : ops[i]? = some o) (ho : o.dst = some d) (hv : Yld P n ops f S o v) (hd : Nat.blt d n = true) (h : FLs P Q S k n ds ops fuel (listed.setIfInBounds i true) ((d, v) :: f) w)
    (hs : Region.noSelect ops = true := by kernel_rfl) (hf : Region.free .any ops listed i = true := by kernel_rfl) (hr : (Region.ready .any ops listed).contains i = true := by kernel_rfl) (hw : waits ops listed i k (wset ops i) = true := by kernel_rfl) : FLs P Q S k n ds ops (fuel + 1) listed f w := lTake i (wset ops i) hi ho hs hf hr hw hv hd h
/-- one operation, where no other may come up -/
theorem lOp (i : Nat) (hi : ops[i]? = some o) (hr : Region.ready .any ops listed = [i]) (h : FL P (Exit.then (fun a' w' => (i = k ∨ S w') ∧ wpL P ops (NoPanic Q) S k fuel (listed.setIfInBounds i true) a' w') (NoPanic Q)) n ds ops [o] f w) : FLs P Q S k n ds ops (fuel + 1) listed f w := fun hS a ha => by
  refine ⟨fun c => (by rw [hr] at c; cases c), fun j hj => ?_⟩
  rw [hr, List.mem_singleton] at hj
  subst hj
  have h := h a ha
  unfold wpOp
  simp only [hi]
  unfold wpList at h
  split at h
  · rename_i hw
    rw [if_pos hw]
    rcases h with h | h
    · refine .inl ?_
      unfold Oper.wp at h ⊢
      generalize (execOp a.eval o).run P w = r at h ⊢
      cases r with
      | ok nx w' =>
        cases nx <;> simp only [Oper.upon] at h ⊢
        case value u => exact h
        case skip => exact h
        case defer dd => exact h
        case enter g args => exact h.mono fun e w'' hh => by cases e <;> exact hh
        case row row args => exact h
      | halt x w' => cases x <;> simp only [Oper.upon] at h ⊢; case panic u => exact h
    · exact .inr h
  · rename_i hw
    rw [if_neg hw]
    exact h
theorem lNext {i : Nat} (hS : S w) (h : FLs P Q S k n ds ops fuel listed f w) : FL P (Exit.then (fun a' w' => (i = k ∨ S w') ∧ wpL P ops (NoPanic Q) S k fuel listed a' w') (NoPanic Q)) n ds ops [] f w := fun a ha => ⟨.inr hS, h hS a ha⟩
/-- the last operation, in the region's own way -/
theorem lLast (hk : ops[k]? = some o) (hr : Region.ready .any ops listed = [k]) (hr' : Region.ready .any ops (listed.setIfInBounds k true) = []) (h : FL P (Exit.then (fun a' w' => Q .normal a' w') (NoPanic Q)) n ds ops [o] f w) : FLs P Q S k n ds ops (fuel + 1) listed f w := fun hS a ha => by
  refine ⟨fun c => (by rw [hr] at c; cases c), fun j hj => ?_⟩
  rw [hr, List.mem_singleton] at hj
  subst hj
  have h := h a ha
  unfold wpOp
  simp only [hk]
  unfold wpList at h
  have fin : ∀ a' w', Q .normal a' w' → ((True ∨ S w') ∧ wpL P ops (NoPanic Q) S j fuel (listed.setIfInBounds j true) a' w') := fun a' w' hq => ⟨.inl trivial, wpL_done hr' (NoPanic.normal hq) fuel⟩
  split at h
  · rename_i hw
    rw [if_pos hw]
    rcases h with h | h
    · refine .inl ?_
      unfold Oper.wp at h ⊢
      generalize (execOp a.eval o).run P w = r at h ⊢
      cases r with
      | ok nx w' =>
        cases nx <;> simp only [Oper.upon] at h ⊢
        case value u => exact fin _ _ h
        case skip => exact fin _ _ h
        case defer dd => exact fin _ _ h
        case enter g args => exact h.mono fun e w'' hh => (match e, hh with | .returned u, hh => fin _ _ hh | .panicked c, hh => hh | .outgrown, hh => hh)
        case row row args => exact h.mono fun u w'' hh => fin _ _ hh
      | halt x w' => cases x <;> simp only [Oper.upon] at h ⊢; case panic u => exact h
    · exact .inr h
  · rename_i hw
    rw [if_neg hw]
    exact fin _ _ h
end
end Fw
end Go.Proofs.Ytgpdodhegacndaa
