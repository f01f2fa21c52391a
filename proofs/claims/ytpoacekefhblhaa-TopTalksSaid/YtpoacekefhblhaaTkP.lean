/- TopTalks: the law, in plain words. -/
import Derived.Test.YtpoacekefhblhaaTkI
import Derived.Test.YtpoacekefhblhaaCkWalks
namespace Go.Proofs.Ytpoacekefhblhaa
set_option linter.unusedSimpArgs false
set_option linter.unusedVariables false
open Go.RowKit
namespace Tk
section
variable {nm : ByteArray} {ver : Int} {qs : List Qu} {m : Nat}
theorem next_stp {l : List Nat} {a : Nat} {x : An} (hx : ans qs (cur qs l) a = some x) : cur qs (l ++ [a]) = x.next := by rw [cur_app]; unfold stp; rw [hx]
theorem eq_of {c : Int} {a : Nat} {x : An} (hx : ans qs c a = some x) (h0 : 0 ≤ x.next) : Eq qs c.toNat x.next.toNat := by
  obtain ⟨h1, h2, h3, h4⟩ := ans_at hx
  exact ⟨h2, x, by rw [← h4]; exact List.getElem_mem h3, by omega⟩
/-- where an interview can stand, it has come -/
theorem way (hv : VP nm ver qs) {g : Nat → Nat} (hg : ∀ x, Rc (Eq qs) 0 x → 1 ≤ g x ∧ ∀ r, Eq qs x r → g r + 1 ≤ g x) : ∀ (n : Nat) (l : List Nat), l.length = n → Wy qs l → l.length ≤ g 0 ∧ (0 ≤ cur qs l → Rc (Eq qs) 0 (cur qs l).toNat ∧ l.length + g (cur qs l).toNat ≤ g 0) := by
  intro n
  induction n with
  | zero =>
    intro l hl _
    obtain rfl := List.length_eq_zero_iff.1 hl
    refine ⟨Nat.zero_le _, fun _ => ⟨.refl 0, ?_⟩⟩
    show 0 + g (0 : Int).toNat ≤ g 0
    simp
  | succ n ih =>
    intro l hl hw
    rcases List.eq_nil_or_concat l with e | ⟨l0, a, e⟩
    · subst e; simp at hl
    · rw [List.concat_eq_append] at e
      subst e
      obtain ⟨hw0, x, hx⟩ := hw.init
      have hl0 : l0.length = n := by simpa using hl
      obtain ⟨h1, h2, h3, h4⟩ := ans_at hx
      obtain ⟨_, k2⟩ := ih l0 hl0 hw0
      obtain ⟨k3, k4⟩ := k2 h1
      have k5 := hg _ k3
      have e := next_stp hx
      rw [e, List.length_append, List.length_singleton]
      refine ⟨by omega, fun h0 => ?_⟩
      have k6 := eq_of hx h0
      have k7 := k5.2 _ k6
      exact ⟨k3.tail k6, by omega⟩
theorem few (hv : VP nm ver qs) (hb : Bd qs 0 m) {l : List Nat} (hw : Wy qs l) : l.length ≤ m := by
  obtain ⟨g, e, hg⟩ := hb
  rw [← e]
  exact (way hv hg _ l rfl hw).1
/-- some end is within reach -/
theorem ends (hv : VP nm ver qs) {g : Nat → Nat} (hg : ∀ x, Rc (Eq qs) 0 x → 1 ≤ g x ∧ ∀ r, Eq qs x r → g r + 1 ≤ g x) : ∀ (n q : Nat), g q ≤ n → Rc (Eq qs) 0 q → q < qs.length → ∃ u, Tm qs q u := by
  intro n
  induction n with
  | zero => intro q hn hr; have := (hg q hr).1; omega
  | succ n ih =>
    intro q hn hr hq
    have h1 := (hv.1 _ (List.getElem_mem hq)).2
    have h0 : 0 < qs[q].an.length := by omega
    have ha := h1.2 _ (List.getElem_mem h0)
    by_cases hx : 0 ≤ qs[q].an[0].next
    · have hlt : qs[q].an[0].next < qs.length := by rcases ha.2 with h | h <;> omega
      have he : Eq qs q qs[q].an[0].next.toNat := ⟨hq, _, List.getElem_mem h0, by omega⟩
      have := (hg q hr).2 _ he
      obtain ⟨u, r, h3, h4⟩ := ih _ (by omega) (hr.tail he) (by omega)
      exact ⟨u, r, h3.head he, h4⟩
    · exact ⟨_, q, .refl q, hq, _, List.getElem_mem h0, by omega, rfl⟩
theorem Tm.head {q r : Nat} {u : Int} (e : Eq qs q r) (h : Tm qs r u) : Tm qs q u := by
  obtain ⟨s, h1, h2⟩ := h
  exact ⟨s, h1.head e, h2⟩
/-- an answer shrinks what can come -/
theorem shrink (hv : VP nm ver qs) (hb : Bd qs 0 m) {l : List Nat} {a : Nat} {x : An} {lo hi lo' hi' : Int} (hw : Wy qs l) (hx : ans qs (cur qs l) a = some x) (h : Ur qs l lo hi) (h' : Ur qs (l ++ [a]) lo' hi') : lo ≤ lo' ∧ lo' ≤ hi' ∧ hi' ≤ hi := by
  obtain ⟨h1, h2, h3, h4⟩ := ans_at hx
  obtain ⟨g, eg, hg⟩ := hb
  have hr := ((way hv hg _ l rfl hw).2 h1).1
  have hu : UR qs (cur qs l).toNat lo hi := by
    rcases h with ⟨k, _⟩ | ⟨_, k⟩
    · omega
    · exact k
  have e := next_stp hx
  have hva := ((hv.1 _ (List.getElem_mem h2)).2.2 x (by rw [← h4]; exact List.getElem_mem h3)).2
  rcases h' with ⟨k1, u, cd, k2, k3, k4⟩ | ⟨k1, k2⟩
  · rcases k2 with ⟨k5, _⟩ | ⟨_, l1, b, y, k6, k7, k8, _⟩
    · exact absurd k1 k5
    · obtain ⟨e1, e2⟩ := List.append_inj' k6 rfl
      subst e1
      injection e2 with e2
      subst e2
      rw [hx] at k7
      injection k7 with k7
      subst k7
      have ht : Tm qs (cur qs l).toNat x.urg := ⟨_, .refl _, h2, x, by rw [← h4]; exact List.getElem_mem h3, by omega, rfl⟩
      have := hu.1 _ ht
      omega
  · rw [e] at k1 k2
    have h0 : 0 ≤ x.next ∧ x.next < qs.length := by rcases hva with k | k <;> omega
    have he := eq_of hx h0.1
    obtain ⟨u, hu'⟩ := ends hv hg (g x.next.toNat) x.next.toNat (Nat.le_refl _) (hr.tail he) (by omega)
    obtain ⟨k3, k4⟩ := k2
    rcases k4 with ⟨k5, k6⟩ | ⟨k5, _⟩
    · have a1 := hu.1 _ (k5.head he)
      have a2 := hu.1 _ (k6.head he)
      have a3 := k3 _ k5
      omega
    · exact absurd hu' (k5 u)
/-- an interview that has ended -/
theorem Rs.code (hv : VP nm ver qs) {l : List Nat} {u : Int} {cd : ByteArray} (h : Rs qs l u cd) (hc : cur qs l = -1) : cd.size ≠ 0 := by
  rcases h with ⟨k, _⟩ | ⟨_, l0, a, x, k1, k2, _, k4⟩
  · exact absurd hc k
  · subst k1
    obtain ⟨h1, h2, h3, h4⟩ := ans_at k2
    rw [next_stp k2] at hc
    rcases ((hv.1 _ (List.getElem_mem h2)).2.2 x (by rw [← h4]; exact List.getElem_mem h3)).2 with k | k
    · rw [k4]; exact k.2.2.1
    · omega
theorem Ur.ended {l : List Nat} {lo hi u : Int} {cd : ByteArray} (h : Ur qs l lo hi) (hc : cur qs l = -1) (hr : Rs qs l u cd) : lo = u ∧ hi = u := by
  rcases h with ⟨_, u', cd', k1, k2, k3⟩ | ⟨k, _⟩
  · have := (k1.uniq hr).1; omega
  · exact absurd hc k
end
end Tk
end Go.Proofs.Ytpoacekefhblhaa
