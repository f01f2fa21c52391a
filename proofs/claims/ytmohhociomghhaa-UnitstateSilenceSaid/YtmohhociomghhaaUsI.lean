/- Layer 27: what holds of every unit, whatever is done. -/
import Derived.Test.YtmohhociomghhaaUsM
namespace Go.Proofs.Ytmohhociomghhaa
set_option linter.unusedSimpArgs false
set_option linter.unusedVariables false
namespace Us
structure Inv (u : U) : Prop where
  ack : u.ack ≤ u.ep
  ack0 : 0 ≤ u.ack
  epM : u.ep ≤ 1099511627776
  st : u.state = 1 → u.ack = u.ep ∧ u.inc = 0
  ord : u.ack < u.ep → u.oe = u.ep ∧ u.ou = u.id ∧ 1 ≤ u.ok ∧ u.ok ≤ 3
  seq : 0 ≤ u.seq
  node : nodeB u.node = true
  heard : tickB u.heard = true
theorem repB_at {u : U} {s : S} (h : repB u s = true) : says s.s = true ∧ 1 ≤ s.q ∧ nodeB s.n = true ∧ 0 ≤ s.e ∧ s.e ≤ u.ep := by
  unfold repB at h
  simp only [Bool.and_eq_true, decide_eq_true_eq] at h
  exact ⟨h.1, h.2.1, h.2.2.1, h.2.2.2⟩
theorem epB_at {u : U} {e : Int} (h : epB u e = true) : u.ep < e ∧ e ≤ 1099511627776 := of_decide_eq_true h
theorem Step.id_ {f : Prop} {u x : U} (h : Step f u x) : x.id = u.id := by
  cases h with
  | same => rfl
  | rep s now e h hq => unfold repU rep1 issue; repeat' split
                        all_goals rfl
  | bind => rfl
  | stand => rfl
  | move => rfl
  | quiet now n e h => unfold quietU issue; split <;> rfl
  | turn => rfl
theorem Step.inv {f : Prop} {u x : U} (h : Step f u x) (hi : Inv u) : Inv x ∧ u.ep ≤ x.ep ∧ u.seq ≤ x.seq ∧ u.ack ≤ x.ack := by
  obtain ⟨a1, a2, a3, a4, a5, a6, a7, a8⟩ := hi
  cases h with
  | same => exact ⟨⟨a1, a2, a3, a4, a5, a6, a7, a8⟩, Int.le_refl _, Int.le_refl _, Int.le_refl _⟩
  | rep s now e h hq =>
    rw [Bool.and_eq_true, Bool.and_eq_true] at h
    obtain ⟨h1, h2, h3⟩ := h
    obtain ⟨b1, b2, b3, b4, b5⟩ := repB_at h1
    have b6 := epB_at h3
    unfold repU rep1 issue
    split
    · next h6 =>
      split
      · exact ⟨⟨by simp; omega, by simp; omega, by simp; omega, by simp, by simp, by simp; omega, by simpa using b3, by simpa using h2⟩, by simp; omega, by simp; omega, by simp; omega⟩
      · exact ⟨⟨by simp; omega, by simp; omega, by simp; omega, by simp, by simp; omega, by simp; omega, by simpa using b3, by simpa using h2⟩, by simp, by simp; omega, by simp; omega⟩
    · next h6 =>
      split
      · next he =>
        refine ⟨⟨by simp; omega, by simp; omega, by simp; omega, fun hs => ?_, by simp; omega, by simp; omega, by simpa using b3, by simpa using h2⟩, by simp, by simp; omega, by simp; omega⟩
        have := a4 hs
        simp; omega
      · next he =>
        have he : s.e = u.ep := Classical.byContradiction he
        split
        · exact ⟨⟨by simp; omega, by simp; omega, by simp; omega, by simp; omega, by simp; omega, by simp; omega, by simpa using b3, by simpa using h2⟩, by simp, by simp; omega, by simp; omega⟩
        · next hs => exact ⟨⟨by simp; omega, by simp; omega, by simp; omega, fun hh => absurd hh hs, by simp; omega, by simp; omega, by simpa using b3, by simpa using h2⟩, by simp, by simp; omega, by simp; omega⟩
  | bind inc e n h hs =>
    simp only [Bool.and_eq_true] at h
    have b6 := epB_at h.2.1
    exact ⟨⟨by simp [issue]; omega, by simpa [issue] using a2, by simp [issue]; omega, by simp [issue], by simp [issue], by simpa [issue] using a6, by simpa [issue] using a7, by simpa [issue] using a8⟩, by simp [issue]; omega, by simp [issue], by simp [issue]⟩
  | stand e h =>
    have b6 := epB_at h
    unfold standU
    refine ⟨⟨by simp [issue]; omega, by simpa [issue] using a2, by simp [issue]; omega, ?_, by simp [issue], by simpa [issue] using a6, by simpa [issue] using a7, by simpa [issue] using a8⟩, by simp [issue]; omega, by simp [issue], by simp [issue]⟩
    simp only [issue]
    intro hh
    split at hh
    · cases hh
    · next hx => exfalso; apply hx; omega
  | move n e h hs =>
    simp only [Bool.and_eq_true] at h
    have b6 := epB_at h.2
    exact ⟨⟨by simp [issue]; omega, by simpa [issue] using a2, by simp [issue]; omega, by simp [issue], by simp [issue], by simpa [issue] using a6, by simpa [issue] using a7, by simpa [issue] using a8⟩, by simp [issue]; omega, by simp [issue], by simp [issue]⟩
  | quiet now n e h =>
    have b6 := epB_at h
    unfold quietU
    split
    · exact ⟨⟨by simp [issue]; omega, by simpa [issue] using a2, by simp [issue]; omega, by simp [issue], by simp [issue], by simpa [issue] using a6, by simpa [issue] using a7, by simpa [issue] using a8⟩, by simp [issue]; omega, by simp [issue], by simp [issue]⟩
    · exact ⟨⟨a1, a2, a3, a4, a5, a6, a7, a8⟩, Int.le_refl _, Int.le_refl _, Int.le_refl _⟩
  | turn a b h hi hf =>
    simp only [Bool.and_eq_true] at h
    have h1 : 1 ≤ a ∧ a ≤ 1099511627776 := of_decide_eq_true h.1
    refine ⟨⟨a1, a2, a3, fun hs => ?_, a5, a6, a7, a8⟩, Int.le_refl _, Int.le_refl _, Int.le_refl _⟩
    have := (a4 hs).2
    exfalso; omega
/-- how an incident comes and goes -/
theorem Step.inc {f : Prop} {u x : U} (h : Step f u x) (hi : Inv u) : (u.inc = 0 → x.inc ≠ 0 → u.state = 1) ∧ (u.inc ≠ 0 → x.inc ≠ 0 → x.inc ≠ u.inc → f) := by
  cases h with
  | same => exact ⟨fun a b => absurd a b, fun _ _ c => absurd rfl c⟩
  | rep s now e h hq =>
    have : (repU u s now e).inc = 0 ∨ (repU u s now e).inc = u.inc := by
      unfold repU rep1 issue; repeat' split
      all_goals first | exact .inl rfl | exact .inr rfl
    exact ⟨fun a b => by omega, fun _ b c => by omega⟩
  | bind inc e n h hs => exact ⟨fun _ _ => hs, fun a _ _ => absurd (hi.st hs).2 a⟩
  | stand e h => exact ⟨fun _ b => absurd rfl b, fun _ b _ => absurd rfl b⟩
  | move n e h hs => exact ⟨fun a b => absurd a b, fun _ _ c => absurd rfl c⟩
  | quiet now n e h =>
    have : (quietU u now n e).inc = 0 ∨ (quietU u now n e).inc = u.inc := by
      unfold quietU issue; split
      · exact .inl rfl
      · exact .inr rfl
    exact ⟨fun a b => by omega, fun _ b c => by omega⟩
  | turn a b h hh hf =>
    simp only [Bool.and_eq_true] at h
    have h1 : 1 ≤ a ∧ a ≤ 1099511627776 := of_decide_eq_true h.1
    exact ⟨fun e => by omega, fun _ _ _ => hf⟩
def Good (l : List U) : Prop := ∀ (i : Nat) (u : U), l[i]? = some u → Inv u ∧ u.id = i
theorem Good.do (a : Act) {l : List U} (h : Good l) : Good (doL a l) := fun i x hx => by
  obtain ⟨u, hu, hs⟩ := step_do a l i x hx
  obtain ⟨h1, h2⟩ := h i u hu
  exact ⟨(hs.inv h1).1, by rw [hs.id_, h2]⟩
theorem Good.play (acts : List Act) : ∀ {l : List U}, Good l → Good (playL l acts) := by
  induction acts with
  | nil => intro l h; exact h
  | cons a acts ih => intro l h; exact ih (h.do a)
theorem Good.wf {l : List U} (h : Good l) : Wf l := fun i hi => (h i _ (List.getElem?_eq_getElem hi)).2
theorem good_new {l : List Cfg} (h : newE l = 0) : Good (newL l) := fun i x hx => by
  have hall : l.all cfgB = true := by
    unfold newE at h; split at h
    · cases h
    · split at h
      · assumption
      · cases h
  obtain ⟨hi, rfl⟩ := List.getElem?_eq_some_iff.1 hx
  have hi' : i < l.length := by rw [newL_len] at hi; exact hi
  rw [newL_at l i hi']
  have hc := List.all_eq_true.1 hall l[i] (List.getElem_mem hi')
  unfold cfgB at hc
  simp only [Bool.and_eq_true] at hc
  exact ⟨⟨Int.le_refl _, Int.le_refl _, by simp [fresh, zero], fun _ => ⟨rfl, rfl⟩, fun h => absurd h (Int.lt_irrefl _), Int.le_refl _, hc.2.2, rfl⟩, rfl⟩
end Us
end Go.Proofs.Ytmohhociomghhaa
