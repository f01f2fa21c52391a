/- A dispatcher and a unit that talk over a channel which delays, doubles and loses: they never hold two incidents. Plain law: no program is named here. -/
import Derived.Test.YtodhpooddmeghaaAh
import Derived.Test.YtodhpooddmeghaaUs
namespace Go.Proofs.Ytodhpooddmeghaa
set_option linter.unusedSimpArgs false
set_option linter.unusedVariables false
namespace Oi
open Ag
/-- the dispatcher's newest order -/
def cu (u : Us.U) : Or.O := ⟨u.ou, u.oe, u.ok, u.oi, u.on⟩
structure OI (e : Int) (u : Us.U) (a : Ag) (os : List Or.O) (ws : List Or.S) : Prop where
  si : SI a
  fi : Or.Inv a.f
  id : u.id = 0
  ep : 0 ≤ u.ack ∧ u.ack ≤ a.f.o.e ∧ a.f.o.e ≤ u.ep ∧ u.ep ≤ e
  mc : 1 ≤ u.ep → u.oe = u.ep ∧ Or.valid (cu u) = true
  fo : a.f.o.e = u.ep → a.f.a = true → a.f.o = Oi.cu u
  mo : ∀ o ∈ os, Or.valid o = true ∧ o.e ≤ u.ep ∧ (o.e = u.ep → o = Oi.cu u)
  mw : ∀ s ∈ ws, Or.fit s = true ∧ s.u = 0 ∧ s.e ≤ a.f.o.e ∧ (s.s = 1 → s.e = a.f.o.e → a.i = 0)
  inc : u.inc ≠ 0 → u.ok = 1 ∧ u.oi = u.inc ∧ (a.f.o.e < u.ep → a.i = 0 ∧ ∀ o ∈ os, o.e ≤ a.f.o.e ∨ o.e = u.ep)
  free : u.state = 1 → u.inc = 0 ∧ a.i = 0 ∧ u.ack = u.ep
section
variable {e : Int} {u : Us.U} {a a' : Ag} {os : List Or.O} {ws : List Or.S}
/-- what the law asks -/
theorem OI.one (h : OI e u a os ws) : ¬ (u.inc ≠ 0 ∧ a.i ≠ 0 ∧ a.i ≠ u.inc) := fun ⟨h1, h2, h3⟩ => by
  obtain ⟨k1, k2, k3⟩ := h.si.inc h2
  obtain ⟨i1, i2, i3⟩ := h.inc h1
  have he := h.ep
  by_cases c : a.f.o.e < u.ep
  · exact h2 (i3 c).1
  · have := h.fo (by omega) k1
    rw [this] at k3
    exact h3 (k3.symm.trans i2)
theorem OI.two (h : OI e u a os ws) : ¬ (u.state = 1 ∧ (u.inc ≠ 0 ∨ a.i ≠ 0 ∨ u.ack ≠ u.ep)) := fun ⟨h1, h2⟩ => by
  obtain ⟨k1, k2, k3⟩ := h.free h1
  omega
theorem OI.later (h : OI e u a os ws) {e' : Int} (he : e ≤ e') : OI e' u a os ws := { h with ep := by have := h.ep; omega }
/-- the agent does something other than to accept an order -/
theorem OI.soft (h : OI e u a os ws) (hs : SI a') (hf : a'.f = a.f) (hi : a'.i = a.i ∨ a'.i = 0) : OI e u a' os ws := by
  have hz : a.i = 0 → a'.i = 0 := fun c => by rcases hi with hi | hi <;> omega
  refine ⟨hs, by rw [hf]; exact h.fi, h.id, by rw [hf]; exact h.ep, h.mc, by rw [hf]; exact h.fo, h.mo, fun s hs => ?_, fun c => ?_, fun c => ?_⟩
  · obtain ⟨k1, k2, k3, k4⟩ := h.mw s hs
    rw [hf]; exact ⟨k1, k2, k3, fun x y => hz (k4 x y)⟩
  · obtain ⟨k1, k2, k3⟩ := h.inc c
    rw [hf]; exact ⟨k1, k2, fun x => ⟨hz (k3 x).1, (k3 x).2⟩⟩
  · obtain ⟨k1, k2, k3⟩ := h.free c
    exact ⟨k1, hz k2, k3⟩
/-- the agent accepts an order -/
theorem OI.hard (h : OI e u a os ws) (hs : SI a') (hfi : Or.Inv a'.f) {o : Or.O} (ho : o ∈ os) (hf : a'.f.o = o) (hn : a.f.o.e < o.e) : OI e u a' os ws := by
  obtain ⟨o1, o2, o3⟩ := h.mo o ho
  have he := h.ep
  refine ⟨hs, hfi, h.id, by rw [hf]; omega, h.mc, fun c _ => by rw [hf] at c ⊢; exact o3 c, h.mo, fun s hs => ?_, fun c => ?_, fun c => ?_⟩
  · obtain ⟨k1, k2, k3, k4⟩ := h.mw s hs
    rw [hf]; exact ⟨k1, k2, by omega, fun _ y => by omega⟩
  · obtain ⟨k1, k2, k3⟩ := h.inc c
    rw [hf]
    refine ⟨k1, k2, fun x => ?_⟩
    have := (k3 (by omega)).2 o ho
    omega
  · obtain ⟨k1, k2, k3⟩ := h.free c
    omega
theorem recv_cases (N : Nat) (E : List Rg.Ed) (u : Int) (a : Ag) (o : Or.O) (t : Int) : ((recv N E u a o t).f = a.f ∧ ((recv N E u a o t).i = a.i ∨ (recv N E u a o t).i = 0)) ∨ (a.f.o.e < o.e ∨ ¬ Or.Inv a.f) ∧ (recv N E u a o t).f = Or.acc a.f o ∧ (Or.acc a.f o).o = o := by
  unfold recv
  have hp := pass_f E a t
  split
  · by_cases c : Or.accB a.f o = true
    · right
      rw [(took_n N E _ _).2.1, hp.1]
      refine ⟨?_, rfl, by rw [acc_of c]⟩
      by_cases hi : Or.Inv a.f
      · exact .inl (accB_new hi c)
      · exact .inr hi
    · left
      rw [(took_n N E _ _).2.1, hp.1, acc_no c]
      refine ⟨rfl, .inl ?_⟩
      unfold took; rw [if_neg (by rw [hp.1]; exact c)]; exact hp.2.1
  · exact .inl ⟨rfl, .inl rfl⟩
theorem OI.recv {N : Nat} {E : List Rg.Ed} (h : OI e u a os ws) (hg : Ag.Good N E 0 a) {o : Or.O} (ho : o ∈ os) (t : Int) : OI e u (Ag.recv N E 0 a o t) os ws := by
  have hs : SI (Ag.recv N E 0 a o t) := h.si.recv o t
  have hg' := hg.recv o t
  rcases recv_cases N E 0 a o t with ⟨h1, h2⟩ | ⟨h1, h2, h3⟩
  · exact h.soft hs h1 h2
  · exact h.hard hs hg'.fi ho (by rw [h2, h3]) (h1.resolve_right (fun c => c h.fi))
theorem OI.pass {E : List Rg.Ed} (h : OI e u a os ws) (t : Int) : OI e u (Ag.pass E a t) os ws := h.soft (h.si.pass t) (pass_f E a t).1 (.inl (pass_f E a t).2.1)
theorem OI.proceed {E : List Rg.Ed} (h : OI e u a os ws) (t : Int) : OI e u (Ag.proceed E a t) os ws := h.soft (h.si.proceed t) (proceed_n E a t).2.1 (by
  have := (pass_f E a t).2.1
  unfold Ag.proceed
  split
  · exact .inl this
  · split
    · exact .inr rfl
    · exact .inl this)
theorem OI.toggle {N : Nat} {E : List Rg.Ed} (h : OI e u a os ws) (t : Int) : OI e u (Ag.toggle N E a t) os ws := h.soft (h.si.toggle t) (toggle_n N E a t).2.1 (by
  have := (pass_f E a t).2.1
  unfold Ag.toggle
  split
  · exact .inl this
  · split
    · exact .inl this
    · exact .inl this)
/-- the agent reports; its report is on the air -/
theorem OI.report {N : Nat} {E : List Rg.Ed} (h : OI e u a os ws) (hg : Ag.Good N E 0 a) (t g : Int) (he : e ≤ 1000) (hq : 0 ≤ a.l.q ∧ a.l.q ≤ 1000) : OI e u (Ag.report E 0 a t g) os ws ∧ (reportB E a t g = true → OI e u (Ag.report E 0 a t g) os (ws ++ [reportS E 0 a t g])) := by
  have hp := pass_f E a t
  have hn := (report_n E 0 a t g).2
  have hi : (Ag.report E 0 a t g).i = a.i := by unfold Ag.report; split <;> exact hp.2.1
  have h1 : OI e u (Ag.report E 0 a t g) os ws := h.soft (h.si.report t g) hn (.inl hi)
  refine ⟨h1, fun hb => { h1 with mw := fun s hs => ?_ }⟩
  rcases List.mem_append.1 hs with hs | hs
  · exact h1.mw s hs
  · rw [List.mem_singleton] at hs
    subst hs
    have hgp := hg.pass t
    have hsp := h.si.pass (E := E) t
    have ee : epoch (Ag.pass E a t) = a.f.o.e := by rw [epoch_o hgp.fi, hp.1]
    have hs : reportS E 0 a t g = says 0 (Ag.pass E a t) := if_pos hb
    rw [hs, hn, hi]
    have hep := h.ep
    have hvN := hgp.v
    have hN := hg.net.n
    refine ⟨?_, rfl, by show epoch (Ag.pass E a t) ≤ _; omega, fun c _ => ?_⟩
    · unfold says
      rw [hp.2.2, wrap_succ hq, ee]
      unfold Or.fit Or.st Or.vu Or.rg Or.vn
      have := hsp.s
      simp only [Bool.and_eq_true, decide_eq_true_eq]
      omega
    · have c : (Ag.pass E a t).s = 1 := c
      rw [← hp.2.1]
      exact Classical.byContradiction fun k => by have := hsp.st.1 k; omega
/-- the dispatcher sends its newest order -/
theorem OI.send (h : OI e u a os ws) (hp : u.ack < u.ep) : OI e u a (os ++ [Oi.cu u]) ws := by
  have he := h.ep
  have hc := h.mc (by omega)
  refine { h with mo := fun o ho => ?_, inc := fun c => ?_ }
  · rcases List.mem_append.1 ho with ho | ho
    · exact h.mo o ho
    · rw [List.mem_singleton] at ho
      subst ho
      exact ⟨hc.2, by show u.oe ≤ _; omega, fun _ => rfl⟩
  · obtain ⟨k1, k2, k3⟩ := h.inc c
    refine ⟨k1, k2, fun x => ⟨(k3 x).1, fun o ho => ?_⟩⟩
    rcases List.mem_append.1 ho with ho | ho
    · exact (k3 x).2 o ho
    · rw [List.mem_singleton] at ho
      subst ho
      exact .inr hc.1
/-- the dispatcher gives a new order -/
theorem OI.issue (h : OI e u a os ws) (b : Us.U) {e' k i n : Int} (he : e < e') (hb : b.id = 0) (hack : 0 ≤ b.ack ∧ b.ack ≤ a.f.o.e) (hst : b.state ≠ 1) (hv : Or.valid ⟨0, e', k, i, n⟩ = true) (hinc : b.inc ≠ 0 → k = 1 ∧ i = b.inc ∧ a.i = 0 ∧ ∀ o ∈ os, o.e ≤ a.f.o.e) : OI e' (Us.issue b e' k i n) a os ws := by
  have hep := h.ep
  refine ⟨h.si, h.fi, hb, by show 0 ≤ b.ack ∧ b.ack ≤ a.f.o.e ∧ a.f.o.e ≤ e' ∧ e' ≤ e'; omega, fun _ => ⟨rfl, ?_⟩, fun c => ?_, fun o ho => ?_, h.mw, fun c => ?_, fun c => absurd c hst⟩
  · show Or.valid ⟨b.id, e', k, i, n⟩ = true
    rw [hb]; exact hv
  · have c : a.f.o.e = e' := c
    omega
  · obtain ⟨k1, k2, k3⟩ := h.mo o ho
    exact ⟨k1, by show o.e ≤ e'; omega, fun c => by have c : o.e = e' := c; omega⟩
  · obtain ⟨k1, k2, k3, k4⟩ := hinc c
    exact ⟨k1, k2, fun _ => ⟨k3, fun o ho => .inl (k4 o ho)⟩⟩
theorem get1 (u : Us.U) : Us.get [u] 0 = u := rfl
theorem put1 (u v : Us.U) : Us.put [u] 0 v = [v] := rfl
theorem there1 (u : Us.U) : Us.there [u] 0 = true := rfl
theorem valid1 {e n : Int} (he : 1 ≤ e ∧ e ≤ 1000) (hn : 0 ≤ n ∧ n < 4096) : Or.valid ⟨0, e, 1, e, n⟩ = true := by
  unfold Or.valid Or.kindOk Or.vu Or.rg Or.vn
  simp
  omega
theorem valid2 {e : Int} (he : 1 ≤ e ∧ e ≤ 1000) : Or.valid ⟨0, e, 2, 0, 0⟩ = true := by
  unfold Or.valid Or.kindOk Or.vu Or.rg Or.vn
  simp
  omega
theorem valid3 {e n : Int} (he : 1 ≤ e ∧ e ≤ 1000) (hn : 0 ≤ n ∧ n < 4096) : Or.valid ⟨0, e, 3, 0, n⟩ = true := by
  unfold Or.valid Or.kindOk Or.vu Or.rg Or.vn
  simp
  omega
theorem OI.bind (h : OI e u a os ws) {e' n : Int} (he : e < e' ∧ 1 ≤ e' ∧ e' ≤ 1000) (hn : 0 ≤ n ∧ n < 4096) : ∃ u', Us.bindL [u] 0 e' e' n = [u'] ∧ OI e' u' a os ws := by
  unfold Us.bindL
  split
  · rename_i hE
    unfold Us.bindE at hE
    rw [get1] at hE
    have hst : u.state = 1 := by
      split at hE
      · split at hE
        · exact absurd hE (by decide)
        · rename_i c; exact Classical.byContradiction c
      · exact absurd hE (by decide)
    obtain ⟨k1, k2, k3⟩ := h.free hst
    have hep := h.ep
    refine ⟨_, put1 _ _, ?_⟩
    rw [get1]
    exact h.issue { u with state := 2, inc := e' } (k := 1) (i := e') (n := n) he.1 h.id ⟨hep.1, hep.2.1⟩ (by show (2 : Int) ≠ 1; decide) (valid1 he.2 hn) (fun _ => ⟨rfl, rfl, k2, fun o ho => by
      have := (h.mo o ho).2.1; omega⟩)
  · exact ⟨u, rfl, h.later (by omega)⟩
theorem OI.stand (h : OI e u a os ws) {e' : Int} (he : e < e' ∧ 1 ≤ e' ∧ e' ≤ 1000) : ∃ u', Us.standL [u] 0 e' = [u'] ∧ OI e' u' a os ws := by
  unfold Us.standL
  split
  · have hep := h.ep
    refine ⟨_, put1 _ _, ?_⟩
    rw [get1]
    unfold Us.standU
    refine h.issue { u with state := if u.state ≠ 6 ∧ u.state ≠ 7 then 2 else u.state, inc := 0 } he.1 h.id ⟨hep.1, hep.2.1⟩ ?_ (valid2 he.2) (fun c => absurd rfl c)
    show (if u.state ≠ 6 ∧ u.state ≠ 7 then (2 : Int) else u.state) ≠ 1
    split
    · decide
    · omega
  · exact ⟨u, rfl, h.later (by omega)⟩
theorem OI.move (h : OI e u a os ws) {e' n : Int} (he : e < e' ∧ 1 ≤ e' ∧ e' ≤ 1000) (hn : 0 ≤ n ∧ n < 4096) : ∃ u', Us.moveL [u] 0 n e' = [u'] ∧ OI e' u' a os ws := by
  unfold Us.moveL
  split
  · rename_i hE
    unfold Us.moveE at hE
    rw [get1] at hE
    have hst : u.state = 1 := by
      split at hE
      · split at hE
        · exact absurd hE (by decide)
        · rename_i c; exact Classical.byContradiction c
      · exact absurd hE (by decide)
    obtain ⟨k1, k2, k3⟩ := h.free hst
    have hep := h.ep
    refine ⟨_, put1 _ _, ?_⟩
    rw [get1]
    exact h.issue { u with state := 2 } (k := 3) (i := 0) (n := n) he.1 h.id ⟨hep.1, hep.2.1⟩ (by show (2 : Int) ≠ 1; decide) (valid3 he.2 hn) (fun c => absurd k1 c)
  · exact ⟨u, rfl, h.later (by omega)⟩
theorem OI.quiet (h : OI e u a os ws) (now n : Int) {e' : Int} (he : e < e' ∧ 1 ≤ e' ∧ e' ≤ 1000) : ∃ u', Us.quietL [u] now n e' = [u'] ∧ OI e' u' a os ws := by
  unfold Us.quietL
  split
  · refine ⟨_, rfl, ?_⟩
    show OI e' (Us.quietU u now n e') a os ws
    unfold Us.quietU
    split
    · have hep := h.ep
      exact h.issue { u with state := 7, inc := 0 } he.1 h.id ⟨hep.1, hep.2.1⟩ (by show (7 : Int) ≠ 1; decide) (valid2 he.2) (fun c => absurd rfl c)
    · exact h.later (by omega)
  · exact ⟨u, rfl, h.later (by omega)⟩
/-- a report reaches the dispatcher -/
def us (s : Or.S) : Us.S := ⟨s.u, s.q, s.s, s.n, s.e⟩
theorem OI.hear (h : OI e u a os ws) {s : Or.S} (hs : s ∈ ws) (now : Int) {e' : Int} (he : e < e' ∧ 1 ≤ e' ∧ e' ≤ 1000) : ∃ u', Us.repL [u] (us s) now e' = [u'] ∧ OI e' u' a os ws := by
  obtain ⟨s1, s2, s3, s4⟩ := h.mw s hs
  have hid : (us s).u = 0 := s2
  have hep := h.ep
  unfold Us.repL
  split
  · rw [hid]
    refine ⟨_, put1 _ _, ?_⟩
    rw [get1]
    have h1 : OI e (Us.rep1 u (us s) now) a os ws := by
      refine ⟨h.si, h.fi, h.id, ?_, h.mc, h.fo, h.mo, h.mw, h.inc, fun c => ?_⟩
      · show 0 ≤ max u.ack s.e ∧ max u.ack s.e ≤ a.f.o.e ∧ a.f.o.e ≤ u.ep ∧ u.ep ≤ e
        omega
      · obtain ⟨k1, k2, k3⟩ := h.free c
        exact ⟨k1, k2, by show max u.ack s.e = u.ep; omega⟩
    have hep1 := h1.ep
    unfold Us.repU
    split
    · split
      · exact h1.issue { Us.rep1 u (us s) now with state := 6, inc := 0 } he.1 h.id ⟨hep1.1, hep1.2.1⟩ (by show (6 : Int) ≠ 1; decide) (valid2 he.2) (fun c => absurd rfl c)
      · refine OI.later (e := e) ?_ (by omega)
        exact { h1 with inc := fun c => absurd rfl c, free := fun c => absurd c (by show ¬ (6 : Int) = 1; decide) }
    · split
      · exact h1.later (by omega)
      · rename_i hse
        have hse : s.e = u.ep := Classical.byContradiction hse
        split
        · rename_i hs1
          refine OI.later (e := e) ?_ (by omega)
          refine { h1 with inc := fun c => absurd rfl c, free := fun _ => ⟨rfl, s4 hs1 (by omega), ?_⟩ }
          show max u.ack s.e = u.ep
          omega
        · rename_i hs1
          refine OI.later (e := e) ?_ (by omega)
          exact { h1 with free := fun c => absurd c hs1 }
  · exact ⟨u, rfl, h.later (by omega)⟩
theorem OI.start (c : Us.Cfg) (v : Nat) : OI 0 (Us.fresh c 0) (Ag.new 0 v) [] [] :=
  ⟨SI.new 0 v, Or.Inv.new 0, rfl, ⟨Int.le_refl _, Int.le_refl _, Int.le_refl _, Int.le_refl _⟩, fun c => absurd c (by show ¬ (1 : Int) ≤ 0; decide), (fun _ c => by cases c), (fun _ h => by cases h), (fun _ h => by cases h), fun c => absurd rfl c, fun _ => ⟨rfl, rfl, rfl⟩⟩
end
end Oi
end Go.Proofs.Ytodhpooddmeghaa
