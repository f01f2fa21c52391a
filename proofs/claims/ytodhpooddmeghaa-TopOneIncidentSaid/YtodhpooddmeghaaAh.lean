/- Layer 29: what the laws ask of an agent. Plain law: no program is named here. -/
import Derived.Test.YtodhpooddmeghaaAg
namespace Go.Proofs.Ytodhpooddmeghaa
set_option linter.unusedSimpArgs false
set_option linter.unusedVariables false
namespace Ag
open Rg
/-- a call at a tick -/
structure Act where
  k : Int
  t : Int
  g : Int
  o : Or.O
noncomputable def act (N : Nat) (E : List Ed) (u : Int) (a : Ag) (x : Act) : Ag :=
  if x.k = 1 then recv N E u a x.o x.t else if x.k = 2 then proceed E a x.t else if x.k = 3 then toggle N E a x.t else if x.k = 4 then report E u a x.t x.g else pass E a x.t
/-- what the reference's radio shares with it: the time, the fence -/
def lk (N : Nat) (u : Int) (m : Int × Or.F) (x : Act) : Int × Or.F := if x.k = 1 then (if adm N u x.o = true then (max m.1 (cl x.t), Or.tk m.2 x.o) else m) else (max m.1 (cl x.t), m.2)
section
variable {N : Nat} {E : List Ed} {u : Int} {a : Ag}
theorem Good.act (h : Good N E u a) (x : Act) : Good N E u (act N E u a x) := by
  unfold Ag.act
  split
  · exact h.recv _ _
  · split
    · exact h.proceed _
    · split
      · exact h.toggle _
      · split
        · exact h.report _ _
        · exact h.pass _
theorem arrive_f (a : Ag) : (arrive a).f = a.f ∧ (arrive a).i = a.i ∧ (arrive a).l = a.l := by unfold arrive; split <;> exact ⟨rfl, rfl, rfl⟩
theorem pass_f (E : List Ed) (a : Ag) (t : Int) : (pass E a t).f = a.f ∧ (pass E a t).i = a.i ∧ (pass E a t).l = a.l := arrive_f _
theorem arrive_s (a : Ag) : (arrive a).s = a.s ∨ (a.s = 3 ∧ (arrive a).s = 4) := by
  unfold arrive; split
  · rename_i h; exact .inr ⟨h.1, rfl⟩
  · exact .inl rfl
theorem pass_s (E : List Ed) (a : Ag) (t : Int) : (pass E a t).s = a.s ∨ (a.s = 3 ∧ (pass E a t).s = 4) := arrive_s _
theorem acc_of {f : Or.F} {o : Or.O} (h : Or.accB f o = true) : Or.acc f o = ⟨f.u, o, true⟩ := by
  unfold Or.accB at h; unfold Or.acc
  rw [if_neg (by rw [Bool.not_eq_true'] at h; rw [h]; decide)]
theorem acc_no {f : Or.F} {o : Or.O} (h : ¬ Or.accB f o = true) : Or.acc f o = f := by
  unfold Or.accB at h; unfold Or.acc
  cases hr : (Or.refused f o || Or.stale f o) with
  | true => rfl
  | false => rw [hr] at h; exact absurd rfl h
/-- behind a turn -/
theorem turn_n (N : Nat) (E : List Ed) (a : Ag) (o : Or.O) : (turn N E a o).n = a.n ∧ (turn N E a o).f = a.f ∧ (turn N E a o).l = a.l := by
  unfold turn
  split
  · exact ⟨(arrive_n _).1, (arrive_f _).1, (arrive_f _).2.2⟩
  · split
    · exact ⟨(arrive_n _).1, (arrive_f _).1, (arrive_f _).2.2⟩
    · split
      · exact ⟨(arrive_n _).1, (arrive_f _).1, (arrive_f _).2.2⟩
      · exact ⟨(arrive_n _).1, (arrive_f _).1, (arrive_f _).2.2⟩
theorem took_n (N : Nat) (E : List Ed) (a : Ag) (o : Or.O) : (took N E a o).n = a.n ∧ (took N E a o).f = Or.acc a.f o ∧ (took N E a o).l = a.l := by
  unfold took
  split
  · split
    · exact ⟨rfl, rfl, rfl⟩
    · exact turn_n N E _ o
  · rename_i h; exact ⟨rfl, (acc_no h).symm, rfl⟩
theorem proceed_n (E : List Ed) (a : Ag) (t : Int) : (proceed E a t).n = now a t ∧ (proceed E a t).f = a.f ∧ (proceed E a t).l = a.l := by
  have := pass_f E a t; have h2 := pass_n E a t
  unfold proceed
  split
  · exact ⟨h2, this.1, this.2.2⟩
  · split
    · exact ⟨h2, this.1, this.2.2⟩
    · exact ⟨h2, this.1, this.2.2⟩
theorem toggle_n (N : Nat) (E : List Ed) (a : Ag) (t : Int) : (toggle N E a t).n = now a t ∧ (toggle N E a t).f = a.f ∧ (toggle N E a t).l = a.l := by
  have := pass_f E a t; have h2 := pass_n E a t
  unfold toggle
  split
  · exact ⟨h2, this.1, this.2.2⟩
  · split
    · exact ⟨h2, this.1, this.2.2⟩
    · exact ⟨h2, this.1, this.2.2⟩
theorem report_n (E : List Ed) (u : Int) (a : Ag) (t g : Int) : (report E u a t g).n = now a t ∧ (report E u a t g).f = a.f := by
  have := pass_f E a t; have h2 := pass_n E a t
  unfold report
  split
  · exact ⟨h2, this.1⟩
  · exact ⟨h2, this.1⟩
theorem lk_act (h : Good N E u a) (x : Act) : lk N u (a.n, a.f) x = ((act N E u a x).n, (act N E u a x).f) := by
  unfold lk act
  split
  · unfold recv
    split
    · rw [(took_n N E _ _).1, (took_n N E _ _).2.1, pass_n, (pass_f E a x.t).1, (Or.tk_acc h.fi x.o).1]; rfl
    · rfl
  · split
    · rw [(proceed_n E a x.t).1, (proceed_n E a x.t).2.1]; rfl
    · split
      · rw [(toggle_n N E a x.t).1, (toggle_n N E a x.t).2.1]; rfl
      · split
        · rw [(report_n E u a x.t x.g).1, (report_n E u a x.t x.g).2]; rfl
        · rw [pass_n, (pass_f E a x.t).1]; rfl
/-! ### one incident -/
/-- a unit with an incident has it of its newest order; it has one on its way there, on the scene, and on to the hospital -/
structure SI (a : Ag) : Prop where
  inc : a.i ≠ 0 → a.f.a = true ∧ a.f.o.k = 1 ∧ a.f.o.i = a.i
  st : a.i ≠ 0 ↔ (3 ≤ a.s ∧ a.s ≤ 5)
  s : a.s = 1 ∨ a.s = 3 ∨ a.s = 4 ∨ a.s = 5 ∨ a.s = 6
theorem SI.new (u : Int) (v : Nat) : SI (new u v) := ⟨fun h => absurd rfl h, ⟨fun h => absurd rfl h, fun h => by have : (3 : Int) ≤ 1 := h.1; omega⟩, .inl rfl⟩
theorem SI.arrive (h : SI a) : SI (arrive a) := by
  unfold Ag.arrive; split
  · rename_i c
    refine ⟨h.inc, ⟨fun _ => ⟨by show (3 : Int) ≤ 4; decide, by show (4 : Int) ≤ 5; decide⟩, fun _ => h.st.2 ⟨by omega, by omega⟩⟩, by right; right; left; rfl⟩
  · exact h
theorem SI.pass (h : SI a) (t : Int) : SI (pass E a t) := SI.arrive (a := moved E a (now a t)) ⟨h.inc, h.st, h.s⟩
theorem SI.took (h : SI a) (o : Or.O) (hv : Or.valid o = true) : SI (took N E a o) := by
  obtain ⟨hk3, _, _, _, hk1, _⟩ := valid_node hv
  unfold Ag.took
  split
  · rename_i hb
    rw [acc_of hb]
    split
    · rename_i h6
      have h0 : a.i = 0 := Classical.byContradiction fun c => by have := h.st.1 c; omega
      exact ⟨fun c => absurd h0 c, ⟨fun c => absurd h0 c, fun c => absurd c.2 (by show ¬ a.s ≤ 5; omega)⟩, h.s⟩
    · unfold turn
      split
      · rename_i c1
        refine SI.arrive ⟨fun _ => ⟨rfl, c1, rfl⟩, ⟨fun _ => ⟨by show (3 : Int) ≤ 3; decide, by show (3 : Int) ≤ 5; decide⟩, fun _ => by show o.i ≠ 0; omega⟩, .inr (.inl rfl)⟩
      · have z : ∀ b : Ag, b.i = 0 → b.s = 1 → SI b := fun b h1 h2 => ⟨fun c => absurd h1 c, ⟨fun c => absurd h1 c, fun c => by omega⟩, .inl h2⟩
        split
        · exact SI.arrive (z _ rfl rfl)
        · split
          · exact SI.arrive (z _ rfl rfl)
          · omega
  · exact h
theorem SI.recv (h : SI a) (o : Or.O) (t : Int) : SI (recv N E u a o t) := by
  unfold Ag.recv; split
  · rename_i c; exact (h.pass t).took o (adm_valid c).1
  · exact h
theorem SI.proceed (h : SI a) (t : Int) : SI (proceed E a t) := by
  have hp := h.pass (E := E) t
  unfold Ag.proceed; split
  · rename_i c
    exact ⟨hp.inc, ⟨fun _ => ⟨by show (3 : Int) ≤ 5; decide, by show (5 : Int) ≤ 5; decide⟩, fun _ => hp.st.2 ⟨by omega, by omega⟩⟩, .inr (.inr (.inr (.inl rfl)))⟩
  · split
    · exact ⟨fun c => absurd rfl c, ⟨fun c => absurd rfl c, fun c => absurd c.1 (by show ¬ (3 : Int) ≤ 1; decide)⟩, .inl rfl⟩
    · exact hp
theorem SI.toggle (h : SI a) (t : Int) : SI (toggle N E a t) := by
  have hp := h.pass (E := E) t
  unfold Ag.toggle; split
  · rename_i c
    have h0 : (Ag.pass E a t).i = 0 := Classical.byContradiction fun k => by have := hp.st.1 k; omega
    exact ⟨fun k => absurd h0 k, ⟨fun k => absurd h0 k, fun k => absurd k.2 (by show ¬ (6 : Int) ≤ 5; decide)⟩, .inr (.inr (.inr (.inr rfl)))⟩
  · split
    · rename_i c
      have h0 : (Ag.pass E a t).i = 0 := Classical.byContradiction fun k => by have := hp.st.1 k; omega
      exact ⟨fun k => absurd h0 k, ⟨fun k => absurd h0 k, fun k => absurd k.1 (by show ¬ (3 : Int) ≤ 1; decide)⟩, .inl rfl⟩
    · exact hp
theorem SI.report (h : SI a) (t g : Int) : SI (report E u a t g) := by
  have hp := h.pass (E := E) t
  unfold Ag.report; split
  · exact ⟨hp.inc, hp.st, hp.s⟩
  · exact hp
theorem SI.act (h : SI a) (x : Act) : SI (act N E u a x) := by
  unfold Ag.act
  split
  · exact h.recv _ _
  · split
    · exact h.proceed _
    · split
      · exact h.toggle _
      · split
        · exact h.report _ _
        · exact h.pass _
theorem epoch_o (h : Or.Inv a.f) : epoch a = a.f.o.e := by
  unfold epoch; split
  · rfl
  · rename_i c; rw [h.1 (by simpa using c)]; rfl
/-- the newest order behind a call -/
theorem act_f (h : Good N E u a) (x : Act) : (act N E u a x).f = if x.k = 1 ∧ recvB N u a x.o = true then ⟨u, x.o, true⟩ else a.f := by
  unfold act
  by_cases c : x.k = 1
  · rw [if_pos c]
    unfold recv recvB
    by_cases c2 : adm N u x.o = true
    · rw [if_pos c2, (took_n N E _ _).2.1, (pass_f E a x.t).1]
      by_cases c3 : Or.accB a.f x.o = true
      · rw [acc_of c3, c2, c3, if_pos ⟨c, rfl⟩, h.fu]
      · rw [acc_no c3, if_neg (by rw [c2, Bool.true_and]; exact fun k => c3 k.2)]
    · rw [if_neg c2, if_neg (fun k => c2 ((Bool.and_eq_true _ _).mp k.2).1)]
  · have e : (if x.k = 1 ∧ recvB N u a x.o = true then (⟨u, x.o, true⟩ : Or.F) else a.f) = a.f := if_neg (fun k => c k.1)
    rw [if_neg c, e]
    split
    · exact (proceed_n E a x.t).2.1
    · split
      · exact (toggle_n N E a x.t).2.1
      · split
        · exact (report_n E u a x.t x.g).2
        · exact (pass_f E a x.t).1
theorem accB_new {f : Or.F} {o : Or.O} (hi : Or.Inv f) (h : Or.accB f o = true) : f.o.e < o.e := by
  have hv : Or.valid o = true ∧ Or.stale f o = false := by
    unfold Or.accB Or.refused at h; simp at h; exact ⟨h.1.1, h.2⟩
  have he := Or.valid_e hv.1
  cases ha : f.a with
  | false => rw [hi.1 ha]; show (0 : Int) < o.e; omega
  | true =>
    have := hv.2; unfold Or.stale at this; rw [ha] at this; simp at this; omega
/-- what the law asks at every step, of the unit and the newest accepted order -/
theorem single_step (h : Good N E u a) (hs : SI a) (x : Act) : epoch a ≤ epoch (act N E u a x) ∧ epoch (act N E u a x) = (act N E u a x).f.o.e ∧ ((act N E u a x).i ≠ 0 → (act N E u a x).f.o.k = 1 ∧ (act N E u a x).i = (act N E u a x).f.o.i) ∧ ((act N E u a x).i ≠ 0 ↔ (3 ≤ (act N E u a x).s ∧ (act N E u a x).s ≤ 5)) := by
  have hg := h.act (N := N) (E := E) (u := u) x
  have h1 := hs.act (N := N) (E := E) (u := u) x
  refine ⟨?_, epoch_o hg.fi, fun c => ⟨(h1.inc c).2.1, (h1.inc c).2.2.symm⟩, h1.st⟩
  rw [epoch_o hg.fi, epoch_o h.fi, act_f h]
  split
  · rename_i c
    have c2 := c.2
    unfold recvB at c2
    rw [Bool.and_eq_true] at c2
    exact Int.le_of_lt (accB_new h.fi c2.2)
  · exact Int.le_refl _
/-! ### reports -/
theorem act_l (x : Act) (h4 : x.k ≠ 4) : (act N E u a x).l = a.l := by
  unfold act
  split
  · unfold recv; split
    · rw [(took_n N E _ _).2.2, (pass_f E a x.t).2.2]
    · rfl
  · split
    · exact (proceed_n E a x.t).2.2
    · split
      · exact (toggle_n N E a x.t).2.2
      · exact (pass_f E a x.t).2.2
theorem report_s (E : List Ed) (u : Int) (a : Ag) (t g : Int) : (report E u a t g).s = (pass E a t).s ∧ (report E u a t g).v = (pass E a t).v ∧ epoch (report E u a t g) = epoch (pass E a t) := by
  unfold report; split
  · exact ⟨rfl, rfl, rfl⟩
  · exact ⟨rfl, rfl, rfl⟩
theorem wrap_succ {q : Int} (h : 0 ≤ q ∧ q ≤ 1000) : IntKind.i64.wrap (q + 1) = q + 1 := Fw.i64_ok (by omega)
end
end Ag
end Go.Proofs.Ytodhpooddmeghaa
