/- Rows of byte slices in memory; what goes over what. -/
import Derived.Test.YtodhpooddmeghaaAc
import Derived.Test.YtodhpooddmeghaaUsE
import Derived.Test.YtodhpooddmeghaaOi
import Derived.Test.YtodhpooddmeghaaOq
namespace Go.Proofs.Ytodhpooddmeghaa
set_option linter.unusedSimpArgs false
set_option linter.unusedVariables false
open Go.RowKit

/-- a row of n byte slices -/
def BRow (w : World) (B : Nat) (A : Option Addr) (n c : Nat) (L : List (List Int)) : Prop :=
  n = L.length ∧ ∃ svs, w.ownsRow B 53 1 (.slice A n c) n svs ∧ ∀ k (hk : k < L.length), ∃ Ak ck, svs[k]? = some (.slice Ak L[k].length ck) ∧ Fw.RdT w 5 Ak (L[k].map (.int .u8))
theorem BRow.kp {ts : List TypeId} {w w' : World} {B : Nat} {A : Option Addr} {n c : Nat} {L : List (List Int)} (h : BRow w B A n c L) (hk : Fw.Kp ts w w') (h1 : ts.contains 53 = false) (h2 : ts.contains 5 = false) : BRow w' B A n c L := by
  obtain ⟨hn, svs, ho, he⟩ := h
  refine ⟨hn, svs, Fw.own_kp ho hk h1, fun k hkl => ?_⟩
  obtain ⟨Ak, ck, e, hr⟩ := he k hkl
  exact ⟨Ak, ck, e, hr.kp hk h2⟩
theorem BRow.low {w w' : World} {B : Nat} {A : Option Addr} {n c : Nat} {L : List (List Int)} (h : BRow w B A n c L) (hb : Below w.heap.size w w') : BRow w' B A n c L := h.kp (ts := []) ((Fw.Kp.refl _ w).low hb) rfl rfl
theorem BRow.nil (w : World) (B : Nat) : BRow w B none 0 0 [] := ⟨rfl, [], World.ownsRow_nil _ _ _ _, fun k hk => absurd hk (Nat.not_lt_zero k)⟩
theorem AgAt.kpx {ts : List TypeId} {w w' : World} {p pf pg N : Nat} {E : List Rg.Ed} {u : Int} {a : Ag} (h : AgAt w p pf pg N E u a) (hk : Fw.Kp ts w w') (h1 : ts.contains 89 = false) (h2 : ts.contains 109 = false) (h3 : ts.contains 107 = false) (h4 : ts.contains 47 = false) (h5 : ts.contains 3 = false) (h6 : ts.contains 29 = false) : AgAt w' p pf pg N E u a := by
  obtain ⟨A, c, k1, k2, k3, k4, k5⟩ := h
  exact ⟨A, c, k1.kp hk h1, k2.kp hk h5, k3, Blk.kp k4 hk h2, k5.kp hk h3 h4 h5 h6⟩
theorem RegAt.kpc {w w' : World} {B p g c : Nat} {l : List Us.U} (h : RegAt w B p g c l) (hc : Chg (· = g) w w') : Fw.Kp [83] w w' := by
  obtain ⟨cur, hb, _⟩ := Fw.own_at h.2.2.2
  exact (Fw.Kp.refl _ w).one hc hb rfl
/-- one slice more -/
theorem BRow.snoc {w w1 : World} {B : Nat} {A A' Ak : Option Addr} {n m c c' ck : Nat} {L : List (List Int)} {b : List Int} {svs : List Value} (hn : n = L.length) (ho : w.ownsRow B 53 1 (.slice A n c) n svs)
    (he : ∀ k (hk : k < L.length), ∃ Ak ck, svs[k]? = some (.slice Ak L[k].length ck) ∧ Fw.RdT w 5 Ak (L[k].map (.int .u8))) (hr : Fw.RdT w 5 Ak (b.map (.int .u8))) (hc : Chg (fun g => some g = (Value.slice A n c).ownBlock) w w1)
    (hN : w1.ownsRow B 53 1 (.slice A' m c') m (svs ++ [.slice Ak b.length ck])) (hm : m = n + 1) : BRow w1 B A' m c' (L ++ [b]) := by
  have hk := (Fw.Kp.refl [53] w).row hc ho rfl
  have hsl : svs.length = n := by have := ho.1; omega
  refine ⟨by simp [hn, hm], _, hN, fun k hk' => ?_⟩
  by_cases e : k < L.length
  obtain ⟨Aj, cj, e1, e2⟩ := he k e
  refine ⟨Aj, cj, ?_, ?_⟩
  rw [List.getElem?_append_left (by omega), e1, List.getElem_append_left e]
  rw [List.getElem_append_left e]; exact e2.kp hk rfl
  have e2 : k = L.length := by simp at hk'; omega
  subst e2
  refine ⟨Ak, ck, ?_, ?_⟩
  have e0 : L.length - n = 0 := by omega
  rw [List.getElem?_append_right (by omega), hsl, e0]
  simp
  rw [List.getElem_append_right (Nat.le_refl _)]
  simpa using hr.kp hk rfl
/-- over a change of another row -/
theorem BRow.other {ts : List TypeId} {S : Nat → Prop} {w w' : World} {B : Nat} {A : Option Addr} {n c : Nat} {L : List (List Int)} (h : BRow w B A n c L) (hc : Chg S w w') (hd : ∀ g, A.map (·.block) = some g → ¬ S g) (hk : Fw.Kp ts w w') (h2 : ts.contains 5 = false) : BRow w' B A n c L := by
  obtain ⟨hn, svs, ho, he⟩ := h
  refine ⟨hn, svs, own_to ho hc hd, fun k hkl => ?_⟩
  obtain ⟨Ak, ck, e, hr⟩ := he k hkl
  exact ⟨Ak, ck, e, hr.kp hk h2⟩
theorem BRow.lt {w : World} {B : Nat} {A : Option Addr} {n c : Nat} {L : List (List Int)} (h : BRow w B A n c L) {g : Nat} (hg : A.map (·.block) = some g) : g < w.heap.size := by
  obtain ⟨hn, svs, ho, he⟩ := h
  exact (ho.lt g (by rw [ownBlock_slice]; exact hg)).2
/-- the slice at k -/
theorem BRow.at_ {T : Type} (f : T → List Int) {w : World} {B : Nat} {A : Option Addr} {n c : Nat} {l : List T} (h : BRow w B A n c (l.map f)) (k : Nat) (hk : k < l.length) :
    ∃ ad b o Ak ck, A = some ad ∧ ad.add (k * 1) = ⟨b, o, none⟩ ∧ w.cell? ⟨b, o, none⟩ = some (.slice Ak (f l[k]).length ck) ∧ Fw.RdT w 5 Ak ((f l[k]).map (.int .u8)) := by
  obtain ⟨hn, svs, ho, he⟩ := h
  have hkl : k < (l.map f).length := by simpa using hk
  obtain ⟨Ak, ck, e1, e2⟩ := he k hkl
  have hsl : svs.length = n := by have := ho.1; omega
  have hks : k < svs.length := by omega
  obtain ⟨ad, b, o, hA, hadd, hc⟩ := Fw.rdAtM (c := id) (l := svs) (by simpa using Rd.of_own ho) k hks
  refine ⟨ad, b, o, Ak, ck, hA, hadd, ?_, ?_⟩
  rw [hc]
  rw [List.getElem?_eq_getElem hks] at e1
  injection e1 with e1
  show some svs[k] = _
  rw [e1, List.getElem_map]
  rw [List.getElem_map] at e2; exact e2
namespace Or
theorem valid_O64 {o : O} (h : valid o = true) : O64 o := by
  have h1 := Ag.valid_node h
  unfold valid at h
  simp only [Bool.and_eq_true, vu, rg, decide_eq_true_eq] at h
  have h2 := h.2
  have hi : 0 ≤ o.i ∧ o.i ≤ 1099511627776 := by
    unfold kindOk at h2
    split at h2
    simp [rg] at h2; omega
    split at h2
    simp at h2; omega
    split at h2
    simp at h2; omega
    cases h2
  unfold O64 Wr.I64
  omega
theorem fit_S64 {s : S} (h : fit s = true) : S64 s := by
  unfold fit at h
  simp only [Bool.and_eq_true, st, vu, rg, vn, decide_eq_true_eq] at h
  unfold S64 Wr.I64
  omega
end Or
namespace Oi
def tE : List Rg.Ed := [⟨0, 1, 2⟩, ⟨1, 2, 2⟩, ⟨2, 0, 2⟩]
theorem t_net : Rg.Net 3 tE := ⟨fun e he => by simp only [tE, List.mem_cons, List.not_mem_nil, or_false] at he; rcases he with rfl | rfl | rfl <;> exact ⟨by decide, by decide⟩, ⟨by decide, by decide⟩, by decide, fun e he => by simp only [tE, List.mem_cons, List.not_mem_nil, or_false] at he; rcases he with rfl | rfl | rfl <;> exact ⟨by decide, .inl (by decide)⟩⟩
/-- a move of the channel -/
structure Air where
  k : Int
  a : Int
def Air.cells (x : Air) : List Value := [.int .u8 x.k, .int .u8 x.a]
theorem Air.len (x : Air) : x.cells.length = 2 := rfl
theorem ord1 {u : Us.U} (h : Us.pend [u] 0 = true) : Us.ordI [u] 0 = [u.ou, u.oe, u.ok, u.oi, u.on] := by unfold Us.ordI; rw [if_pos h]; rfl
theorem unit1 (u : Us.U) : Us.unitA [u] 0 = [.int .i64 u.id, .int .i64 u.kind, .int .i64 u.home, .int .i64 u.state, .int .i64 u.node, .int .i64 u.seq, .int .i64 u.heard, .int .i64 u.inc, .int .i64 u.ep, .int .i64 u.ack] := rfl
theorem recv_l (N : Nat) (E : List Rg.Ed) (u : Int) (a : Ag) (o : Or.O) (t : Int) : (Ag.recv N E u a o t).l = a.l := by
  unfold Ag.recv; split
  rw [(Ag.took_n N E _ _).2.2, (Ag.pass_f E a t).2.2]
  rfl
theorem report_q (E : List Rg.Ed) (u : Int) (a : Ag) (t g : Int) (h : 0 ≤ a.l.q ∧ a.l.q ≤ 1000) : 0 ≤ (Ag.report E u a t g).l.q ∧ (Ag.report E u a t g).l.q ≤ a.l.q + 1 := by
  have hp := (Ag.pass_f E a t).2.2
  unfold Ag.report; split
  show 0 ≤ IntKind.i64.wrap ((Ag.pass E a t).l.q + 1) ∧ IntKind.i64.wrap ((Ag.pass E a t).l.q + 1) ≤ _
  rw [hp, Ag.wrap_succ h]; omega
  rw [hp]; omega
theorem pend1 {u : Us.U} (h : Us.pend [u] 0 = true) : u.ack < u.ep := by
  unfold Us.pend at h
  rw [Bool.and_eq_true] at h
  exact of_decide_eq_true h.2
end Oi
end Go.Proofs.Ytodhpooddmeghaa
