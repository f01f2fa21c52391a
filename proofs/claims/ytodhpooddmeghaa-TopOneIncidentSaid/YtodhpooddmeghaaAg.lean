/- Layer 29: a unit's agent as plain data, and what its operations do to it. -/
import Derived.Test.YtodhpooddmeghaaRgP
import Derived.Test.YtodhpooddmeghaaOf
namespace Go.Proofs.Ytodhpooddmeghaa
set_option linter.unusedSimpArgs false
set_option linter.unusedVariables false
namespace Rg
/-- the travel times of the edges -/
def ems (E : List Ed) : List Int := E.map Ed.m
theorem tt_ems {E : List Ed} {i : Nat} (h : i < E.length) : tt (ems E) i = if 1 ≤ E[i].m ∧ E[i].m ≤ 1048576 then E[i].m else Sp.INF := by
  have hl : i < (ems E).length := by unfold ems; rw [List.length_map]; exact h
  rw [tt_in hl]
  have e : (ems E)[i] = E[i].m := by simp [ems]
  rw [e]
open Classical in
noncomputable def distOf (N : Nat) (E : List Ed) (b : Nat) : Nat → Int := if h : ∃ D, Sp.IsDist (Sp.star (arcT N E (ems E) false)) 8589934593 (· = b) D then h.choose else fun _ => 0
theorem distOf_spec {N : Nat} {E : List Ed} {b : Nat} (hE : EOk N E) (hN : N ≤ 12) (hb : b < N) : Sp.IsDist (Sp.star (arcT N E (ems E) false)) 8589934593 (· = b) (distOf N E b) := by
  have h := dist_ex (ems E) hE hN hb
  unfold distOf
  rw [dif_pos h]; exact h.choose_spec
open Classical in
/-- the way that Path takes -/
noncomputable def wayOf (N : Nat) (E : List Ed) (a b : Nat) : List Nat := if h : ∃ l, distOf N E b a ≠ Sp.INF ∧ Sp.Trail (arcT N E (ems E) false) (distOf N E b) b a l then h.choose else []
theorem wayOf_eq {N : Nat} {E : List Ed} {a b : Nat} {l : List Nat} (h1 : distOf N E b a = Sp.INF → l = []) (h2 : distOf N E b a ≠ Sp.INF → Sp.Trail (arcT N E (ems E) false) (distOf N E b) b a l) : l = wayOf N E a b := by
  unfold wayOf
  by_cases h : distOf N E b a = Sp.INF
  · rw [dif_neg (fun ⟨l, hh, _⟩ => hh h)]; exact h1 h
  · have hx : ∃ l, distOf N E b a ≠ Sp.INF ∧ Sp.Trail (arcT N E (ems E) false) (distOf N E b) b a l := ⟨l, h, h2 h⟩
    rw [dif_pos hx]
    exact (h2 h).unique hx.choose_spec.2
/-- edges that lead on from v, none of them from d -/
def Route (E : List Ed) (d : Nat) : Nat → List Nat → Prop
  | _, [] => True
  | v, i :: l => v ≠ d ∧ ∃ h : i < E.length, (1 ≤ E[i].m ∧ E[i].m ≤ 1048576) ∧ Route E d E[i].t l
theorem trail_route {N : Nat} {E : List Ed} {D : Nat → Int} {a b : Nat} {l : List Nat} (h : Sp.Trail (arcT N E (ems E) false) D b a l) : Route E b a l := by
  induction h with
  | nil => trivial
  | @cons v i l hv hi hr ih =>
    have ho := hi.1.1
    have hl : i < E.length := ho.1
    have e := ho.2
    rw [wt_ltF hl, tt_ems hl] at e
    have es : (arcT N E (ems E) false).s i = E[i].t := arc_s hl
    rw [es] at ih
    refine ⟨hv, hl, ?_, ih⟩
    by_cases c : 1 ≤ E[i].m ∧ E[i].m ≤ 1048576
    · exact c
    · rw [if_neg c] at e; exact absurd rfl e
theorem wayOf_route (N : Nat) (E : List Ed) (a b : Nat) : Route E b a (wayOf N E a b) := by
  unfold wayOf
  split
  · rename_i h; exact trail_route h.choose_spec.2
  · trivial
def ed (E : List Ed) (i : Nat) : Ed := (E[i]?).getD ⟨0, 0, 0⟩
theorem ed_at {E : List Ed} {i : Nat} (h : i < E.length) : ed E i = E[i] := by unfold ed; rw [List.getElem?_eq_getElem h]; rfl
end Rg
/-- an agent -/
structure Ag where
  s : Int
  v : Nat
  i : Int
  d : Nat
  p : List Nat
  z : Int
  n : Int
  l : Or.S
  r : Int
  f : Or.F
namespace Ag
open Rg
def cl (t : Int) : Int := min (max t 0) 1099511627776
theorem cl_le (t : Int) : 0 ≤ cl t ∧ cl t ≤ 1099511627776 := by unfold cl; omega
theorem cl_mono {t t' : Int} (h : t ≤ t') : cl t ≤ cl t' := by unfold cl; omega
theorem cl_id {t : Int} (h : 0 ≤ t ∧ t ≤ 1099511627776) : cl t = t := by unfold cl; omega
def drive (E : List Ed) (n : Int) : List Nat → Nat → Int → List Nat × Nat × Int
  | [], v, z => ([], v, z)
  | i :: l, v, z => if n - z < (ed E i).m then (i :: l, v, z) else drive E n l (ed E i).t (z + (ed E i).m)
def arrive (a : Ag) : Ag := if a.s = 3 ∧ a.v = a.d then { a with s := 4 } else a
def now (a : Ag) (t : Int) : Int := max a.n (cl t)
def moved (E : List Ed) (a : Ag) (n : Int) : Ag := { a with n := n, p := (drive E n a.p a.v a.z).1, v := (drive E n a.p a.v a.z).2.1, z := (drive E n a.p a.v a.z).2.2 }
def pass (E : List Ed) (a : Ag) (t : Int) : Ag := arrive (moved E a (now a t))
noncomputable def head (N : Nat) (E : List Ed) (a : Ag) (d : Nat) : Ag := { a with d := d, z := a.n, p := if d = a.v then [] else wayOf N E a.v d }
def adm (N : Nat) (u : Int) (o : Or.O) : Bool := Or.valid o && decide (o.u = u) && (decide (o.k = 2) || decide (o.n < N))
noncomputable def turn (N : Nat) (E : List Ed) (a : Ag) (o : Or.O) : Ag :=
  if o.k = 1 then arrive (head N E { a with s := 3, i := o.i } o.n.toNat) else if o.k = 2 then arrive (head N E { a with s := 1, i := 0 } a.v) else if o.k = 3 then arrive (head N E { a with s := 1, i := 0 } o.n.toNat) else arrive a
/-- Receive: the agent, whether the order was accepted, the error -/
noncomputable def took (N : Nat) (E : List Ed) (a : Ag) (o : Or.O) : Ag := if Or.accB a.f o = true then (if a.s = 6 then { a with f := Or.acc a.f o } else turn N E { a with f := Or.acc a.f o } o) else a
noncomputable def recv (N : Nat) (E : List Ed) (u : Int) (a : Ag) (o : Or.O) (t : Int) : Ag := if adm N u o = true then took N E (pass E a t) o else a
def recvB (N : Nat) (u : Int) (a : Ag) (o : Or.O) : Bool := adm N u o && Or.accB a.f o
def recvE (N : Nat) (u : Int) (o : Or.O) : Int := if adm N u o = true then 0 else 1
def proceed (E : List Ed) (a : Ag) (t : Int) : Ag := if (pass E a t).s = 4 then { pass E a t with s := 5 } else if (pass E a t).s = 5 then { pass E a t with s := 1, i := 0 } else pass E a t
def proceedE (E : List Ed) (a : Ag) (t : Int) : Int := if (pass E a t).s = 4 ∨ (pass E a t).s = 5 then 0 else 8
noncomputable def toggle (N : Nat) (E : List Ed) (a : Ag) (t : Int) : Ag := if (pass E a t).s = 1 then head N E { pass E a t with s := 6 } (pass E a t).v else if (pass E a t).s = 6 then { pass E a t with s := 1 } else pass E a t
def toggleE (E : List Ed) (a : Ag) (t : Int) : Int := if (pass E a t).s = 1 ∨ (pass E a t).s = 6 then 0 else 8
def epoch (a : Ag) : Int := if a.f.a = true then a.f.o.e else 0
def changed (a : Ag) : Prop := a.l.q = 0 ∨ a.l.s ≠ a.s ∨ a.l.n ≠ (a.v : Int) ∨ a.l.e ≠ epoch a
instance (a : Ag) : Decidable (changed a) := by unfold changed; infer_instance
def due (a : Ag) (g : Int) : Prop := 0 < g ∧ g ≤ a.n - a.r
instance (a : Ag) (g : Int) : Decidable (due a g) := by unfold due; infer_instance
def says (u : Int) (a : Ag) : Or.S := ⟨u, IntKind.i64.wrap (a.l.q + 1), a.s, a.v, epoch a⟩
def nil_ : Or.S := ⟨0, 0, 0, 0, 0⟩
def reportB (E : List Ed) (a : Ag) (t g : Int) : Bool := decide (changed (pass E a t) ∨ due (pass E a t) g)
def report (E : List Ed) (u : Int) (a : Ag) (t g : Int) : Ag := if reportB E a t g = true then { pass E a t with l := says u (pass E a t), r := (pass E a t).n } else pass E a t
def reportS (E : List Ed) (u : Int) (a : Ag) (t g : Int) : Or.S := if reportB E a t g = true then says u (pass E a t) else nil_
def new (u : Int) (v : Nat) : Ag := ⟨1, v, 0, v, [], 0, 0, nil_, 0, Or.new u⟩
/-- what holds of every agent -/
structure Good (N : Nat) (E : List Ed) (u : Int) (a : Ag) : Prop where
  net : Net N E
  v : a.v < N
  d : a.d < N
  rt : Route E a.d a.v a.p
  zn : 0 ≤ a.z ∧ a.z ≤ a.n ∧ a.n ≤ 1099511627776
  rn : 0 ≤ a.r ∧ a.r ≤ a.n
  st : drive E a.n a.p a.v a.z = (a.p, a.v, a.z)
  ar : a.s = 3 → a.v ≠ a.d
  fu : a.f.u = u
  fi : Or.Inv a.f
/-- what driving keeps -/
theorem drive_keeps {N : Nat} {E : List Ed} (hE : EOk N E) {n : Int} {d : Nat} : ∀ (p : List Nat) (v : Nat) (z : Int), Route E d v p → v < N → z ≤ n →
    Route E d (drive E n p v z).2.1 (drive E n p v z).1 ∧ (drive E n p v z).2.1 < N ∧ z ≤ (drive E n p v z).2.2 ∧ (drive E n p v z).2.2 ≤ n
  | [], v, z, _, hv, hz => ⟨trivial, hv, Int.le_refl _, hz⟩
  | i :: l, v, z, hr, hv, hz => by
    obtain ⟨h1, h2, h3, h4⟩ := hr
    unfold drive
    split
    · exact ⟨⟨h1, h2, h3, h4⟩, hv, Int.le_refl _, hz⟩
    · rename_i h
      rw [ed_at h2] at h ⊢
      have := drive_keeps hE (n := n) (d := d) l E[i].t (z + E[i].m) h4 (hE _ (List.getElem_mem h2)).2 (by omega)
      exact ⟨this.1, this.2.1, by omega, this.2.2.2⟩
theorem drive_twice {E : List Ed} {n n' : Int} (h : n ≤ n') : ∀ (p : List Nat) (v : Nat) (z : Int), drive E n' (drive E n p v z).1 (drive E n p v z).2.1 (drive E n p v z).2.2 = drive E n' p v z
  | [], v, z => rfl
  | i :: l, v, z => by
    by_cases c : n - z < (ed E i).m
    · have e : drive E n (i :: l) v z = (i :: l, v, z) := if_pos c
      rw [e]
    · have e : drive E n (i :: l) v z = drive E n l (ed E i).t (z + (ed E i).m) := if_neg c
      have e' : drive E n' (i :: l) v z = drive E n' l (ed E i).t (z + (ed E i).m) := if_neg (by omega)
      rw [e, e']
      exact drive_twice h l _ _
section
variable {N : Nat} {E : List Ed} {u : Int} {a : Ag} {t : Int}
theorem now_le (h : Good N E u a) (t : Int) : a.n ≤ now a t ∧ now a t ≤ 1099511627776 := by
  have := cl_le t; have := h.zn; unfold now; omega
theorem arrive_good (h : Net N E) (h1 : a.v < N) (h2 : a.d < N) (h3 : Route E a.d a.v a.p) (h4 : 0 ≤ a.z ∧ a.z ≤ a.n ∧ a.n ≤ 1099511627776) (h5 : 0 ≤ a.r ∧ a.r ≤ a.n) (h6 : drive E a.n a.p a.v a.z = (a.p, a.v, a.z)) (h7 : a.f.u = u) (h8 : Or.Inv a.f) : Good N E u (arrive a) := by
  unfold arrive
  split
  · exact ⟨h, h1, h2, h3, h4, h5, h6, fun e => absurd e (by show ¬ (4 : Int) = 3; decide), h7, h8⟩
  · rename_i c
    exact ⟨h, h1, h2, h3, h4, h5, h6, fun e e' => c ⟨e, e'⟩, h7, h8⟩
theorem Good.pass (h : Good N E u a) (t : Int) : Good N E u (pass E a t) := by
  have hn := now_le h t
  obtain ⟨k1, k2, k3, k4⟩ := drive_keeps h.net.ok (n := now a t) (d := a.d) a.p a.v a.z h.rt h.v (by have := h.zn; omega)
  refine arrive_good h.net k2 h.d k1 ⟨by have := h.zn; show 0 ≤ (drive E (now a t) a.p a.v a.z).2.2; omega, k4, hn.2⟩ ⟨h.rn.1, by have := h.rn; show a.r ≤ now a t; omega⟩ ?_ h.fu h.fi
  show drive E (now a t) _ _ _ = _
  rw [show (moved E a (now a t)).p = (drive E (now a t) a.p a.v a.z).1 from rfl, show (moved E a (now a t)).v = (drive E (now a t) a.p a.v a.z).2.1 from rfl, show (moved E a (now a t)).z = (drive E (now a t) a.p a.v a.z).2.2 from rfl, drive_twice (Int.le_refl _)]
theorem arrive_same (h : Good N E u a) : arrive a = a := by
  unfold arrive; rw [if_neg (fun c => h.ar c.1 c.2)]
theorem pass_self (h : Good N E u a) : Ag.pass E a a.n = a := by
  have e : now a a.n = a.n := by unfold now; rw [cl_id (by have := h.zn; omega)]; omega
  unfold Ag.pass
  rw [e]
  have e2 : moved E a a.n = a := by unfold moved; rw [h.st]
  rw [e2]; exact arrive_same h
theorem arrive_n (a : Ag) : (arrive a).n = a.n ∧ (arrive a).p = a.p ∧ (arrive a).v = a.v ∧ (arrive a).z = a.z ∧ (arrive a).d = a.d := by unfold arrive; split <;> exact ⟨rfl, rfl, rfl, rfl, rfl⟩
theorem pass_n (E : List Ed) (a : Ag) (t : Int) : (Ag.pass E a t).n = now a t := by unfold Ag.pass; rw [(arrive_n _).1]; rfl
theorem pass_pass (h : Good N E u a) {t t' : Int} (ht : t ≤ t') : Ag.pass E (Ag.pass E a t) t' = Ag.pass E a t' := by
  have hn := now_le h t
  obtain ⟨k1, k2, k3, k4⟩ := drive_keeps h.net.ok (n := now a t) (d := a.d) a.p a.v a.z h.rt h.v (by have := h.zn; omega)
  have e1 : now (Ag.pass E a t) t' = now a t' := by
    unfold now; rw [pass_n]; unfold now; have := cl_mono ht; omega
  have hle : now a t ≤ now a t' := by unfold now; have := cl_mono ht; omega
  have e2 := drive_twice hle (E := E) a.p a.v a.z
  unfold Ag.pass at e1 ⊢
  rw [e1]
  obtain ⟨q1, q2, q3, q4, q5⟩ := arrive_n (moved E a (now a t))
  have em : ∀ s, moved E { moved E a (now a t) with s := s } (now a t') = { moved E a (now a t') with s := s } := fun s => by
    unfold moved
    simp only
    rw [e2]
  by_cases c : (moved E a (now a t)).s = 3 ∧ (moved E a (now a t)).v = (moved E a (now a t)).d
  · have ea : arrive (moved E a (now a t)) = { moved E a (now a t) with s := 4 } := if_pos c
    rw [ea, em]
    have hp : (drive E (now a t) a.p a.v a.z).1 = [] := by
      cases hh : (drive E (now a t) a.p a.v a.z).1 with
      | nil => rfl
      | cons i l => rw [hh] at k1; exact absurd c.2 k1.1
    rw [hp] at e2
    have ev : (drive E (now a t') a.p a.v a.z).2.1 = a.d := by rw [← e2]; exact c.2
    have eb : arrive (moved E a (now a t')) = { moved E a (now a t') with s := 4 } := if_pos ⟨c.1, ev⟩
    rw [eb]
    exact if_neg (fun c' => absurd c'.1 (by show ¬ (4 : Int) = 3; decide))
  · have ea : arrive (moved E a (now a t)) = moved E a (now a t) := if_neg c
    rw [ea]
    have := em (moved E a (now a t)).s
    rw [show ({ moved E a (now a t) with s := (moved E a (now a t)).s } : Ag) = moved E a (now a t) from rfl] at this
    rw [this]
    rfl
theorem head_route (N : Nat) (E : List Ed) (v d : Nat) : Route E d v (if d = v then [] else wayOf N E v d) := by
  split
  · trivial
  · exact wayOf_route N E v d
theorem head_stable {n : Int} {d v : Nat} : ∀ {p : List Nat}, Route E d v p → drive E n p v n = (p, v, n)
  | [], _ => rfl
  | i :: l, ⟨_, h2, h3, _⟩ => by
    unfold drive
    rw [if_pos (by rw [ed_at h2]; omega)]
theorem Good.headA (h : Good N E u a) {s i : Int} {f : Or.F} {d : Nat} (hd : d < N) (hf : f.u = u) (hi : Or.Inv f) : Good N E u (arrive (head N E { a with s := s, i := i, f := f } d)) :=
  arrive_good h.net h.v hd (head_route N E a.v d) ⟨by have := h.zn; show 0 ≤ a.n; omega, Int.le_refl _, h.zn.2.2⟩ h.rn (head_stable (head_route N E a.v d)) hf hi
theorem Good.head6 (h : Good N E u a) : Good N E u (head N E { a with s := 6 } a.v) :=
  ⟨h.net, h.v, h.v, head_route N E a.v a.v, ⟨by have := h.zn; show 0 ≤ a.n; omega, Int.le_refl _, h.zn.2.2⟩, h.rn, head_stable (head_route N E a.v a.v), fun e => absurd e (by show ¬ (6 : Int) = 3; decide), h.fu, h.fi⟩
theorem Good.set (h : Good N E u a) {s i : Int} (hs : s ≠ 3) : Good N E u { a with s := s, i := i } := ⟨h.net, h.v, h.d, h.rt, h.zn, h.rn, h.st, fun e => absurd e hs, h.fu, h.fi⟩
theorem Good.setF (h : Good N E u a) {f : Or.F} (hf : f.u = u) (hi : Or.Inv f) : Good N E u { a with f := f } := ⟨h.net, h.v, h.d, h.rt, h.zn, h.rn, h.st, h.ar, hf, hi⟩
theorem Good.setL (h : Good N E u a) {l : Or.S} : Good N E u { a with l := l, r := a.n } := ⟨h.net, h.v, h.d, h.rt, h.zn, ⟨by have := h.zn; show 0 ≤ a.n; omega, Int.le_refl _⟩, h.st, h.ar, h.fu, h.fi⟩
theorem acc_u (f : Or.F) (o : Or.O) : (Or.acc f o).u = f.u := by unfold Or.acc; split <;> rfl
theorem adm_valid {o : Or.O} (h : adm N u o = true) : Or.valid o = true ∧ o.u = u ∧ (o.k = 2 ∨ o.n < N) := by
  unfold adm at h; simp at h; exact ⟨h.1.1, h.1.2, h.2⟩
theorem valid_node {o : Or.O} (h : Or.valid o = true) : (o.k = 1 ∨ o.k = 2 ∨ o.k = 3) ∧ 0 ≤ o.n ∧ o.n < 4096 ∧ (o.k = 2 → o.n = 0) ∧ (o.k = 1 → 1 ≤ o.i) ∧ 1 ≤ o.e := by
  have he := Or.valid_e h
  unfold Or.valid at h
  simp only [Bool.and_eq_true] at h
  have h2 := h.2
  unfold Or.kindOk at h2
  by_cases c1 : o.k = 1
  · rw [if_pos c1] at h2
    simp only [Bool.and_eq_true, Or.rg, Or.vn, decide_eq_true_eq] at h2
    omega
  · rw [if_neg c1] at h2
    by_cases c2 : o.k = 2
    · rw [if_pos c2] at h2
      simp at h2
      omega
    · rw [if_neg c2] at h2
      by_cases c3 : o.k = 3
      · rw [if_pos c3] at h2
        simp [Or.vn] at h2
        omega
      · rw [if_neg c3] at h2; cases h2
theorem Good.took (h : Good N E u a) {o : Or.O} (ho : adm N u o = true) : Good N E u (took N E a o) := by
  obtain ⟨hv, _, hk⟩ := adm_valid ho
  obtain ⟨hk3, hn0, _, hk2, _, _⟩ := valid_node hv
  have hfu : (Or.acc a.f o).u = u := by rw [acc_u]; exact h.fu
  have hfi := h.fi.acc o
  unfold Ag.took
  split
  · split
    · exact h.setF hfu hfi
    · unfold turn
      split
      · exact h.headA (a := a) (by omega) hfu hfi
      · split
        · exact h.headA (a := a) h.v hfu hfi
        · split
          · exact h.headA (a := a) (by omega) hfu hfi
          · omega
  · exact h
theorem Good.recv (h : Good N E u a) (o : Or.O) (t : Int) : Good N E u (recv N E u a o t) := by
  unfold Ag.recv
  split
  · rename_i ho; exact (h.pass t).took ho
  · exact h
theorem Good.proceed (h : Good N E u a) (t : Int) : Good N E u (proceed E a t) := by
  unfold Ag.proceed
  split
  · exact (h.pass t).set (s := 5) (i := (Ag.pass E a t).i) (by decide)
  · split
    · exact (h.pass t).set (by decide)
    · exact h.pass t
theorem Good.toggle (h : Good N E u a) (t : Int) : Good N E u (toggle N E a t) := by
  unfold Ag.toggle
  split
  · exact (h.pass t).head6
  · split
    · exact (h.pass t).set (s := 1) (i := (Ag.pass E a t).i) (by decide)
    · exact h.pass t
theorem Good.report (h : Good N E u a) (t g : Int) : Good N E u (report E u a t g) := by
  unfold Ag.report
  split
  · exact (h.pass t).setL
  · exact h.pass t
theorem Good.new {u : Int} {v : Nat} (h : Net N E) (hv : v < N) : Good N E u (new u v) := ⟨h, hv, hv, trivial, ⟨Int.le_refl _, Int.le_refl _, by show (0 : Int) ≤ 1099511627776; decide⟩, ⟨Int.le_refl _, Int.le_refl _⟩, rfl, fun e => absurd e (by show ¬ (1 : Int) = 3; decide), rfl, Or.Inv.new u⟩
end
end Ag
end Go.Proofs.Ytodhpooddmeghaa
