/- TopTalks: interviews, in plain Lean and in memory. -/
import Derived.Test.YtpoacekefhblhaaTkE
namespace Go.Proofs.Ytpoacekefhblhaa
set_option linter.unusedSimpArgs false
set_option linter.unusedVariables false
open Go.RowKit
namespace Tk
/-- what a question says, wherever its answers lie -/
def Qu.pl (q : Qu) : Qu := ⟨q.text, none, 0, q.an⟩
def nf (qs : List Qu) : List Qu := qs.map Qu.pl
theorem nf_len (qs : List Qu) : (nf qs).length = qs.length := by unfold nf; simp
theorem nf_get {qs : List Qu} {q : Nat} (h : q < qs.length) : (nf qs)[q]'(by rw [nf_len]; exact h) = qs[q].pl := by unfold nf; simp
theorem Eq_nf (qs : List Qu) : Eq (nf qs) = Eq qs := by
  funext q r
  apply propext
  constructor
  · rintro ⟨h, a, ha, e⟩
    have h' : q < qs.length := by rw [nf_len] at h; exact h
    rw [nf_get h'] at ha
    exact ⟨h', a, ha, e⟩
  · rintro ⟨h, a, ha, e⟩
    exact ⟨by rw [nf_len]; exact h, a, by rw [nf_get h]; exact ha, e⟩
theorem VP_nf {nm : ByteArray} {ver : Int} (qs : List Qu) : VP nm ver (nf qs) ↔ VP nm ver qs := by
  unfold VP
  rw [nf_len]
  have : (∀ q ∈ nf qs, VQ qs.length q) ↔ ∀ q ∈ qs, VQ qs.length q := by
    constructor
    · intro h q hq
      have := h q.pl (List.mem_map.2 ⟨q, hq, rfl⟩)
      exact this
    · intro h q hq
      obtain ⟨q', hq', rfl⟩ := List.mem_map.1 hq
      exact h q' hq'
  rw [this]
theorem Good_nf {nm : ByteArray} {ver : Int} (qs : List Qu) : Good nm ver (nf qs) ↔ Good nm ver qs := by
  unfold Good; rw [VP_nf, nf_len, Eq_nf]
theorem Bd_nf {q m : Nat} (qs : List Qu) : Bd (nf qs) q m ↔ Bd qs q m := by
  unfold Bd; rw [Eq_nf]
theorem Tm_nf (qs : List Qu) : Tm (nf qs) = Tm qs := by
  funext q u
  apply propext
  unfold Tm
  rw [Eq_nf]
  constructor
  · rintro ⟨r, hr, h, a, ha, e⟩
    have h' : r < qs.length := by rw [nf_len] at h; exact h
    rw [nf_get h'] at ha
    exact ⟨r, hr, h', a, ha, e⟩
  · rintro ⟨r, hr, h, a, ha, e⟩
    exact ⟨r, hr, by rw [nf_len]; exact h, a, by rw [nf_get h]; exact ha, e⟩
theorem UR_nf {q : Nat} {lo hi : Int} (qs : List Qu) : UR (nf qs) q lo hi ↔ UR qs q lo hi := by
  unfold UR; rw [Tm_nf]
/-- answer a of question c -/
def ans (qs : List Qu) (c : Int) (a : Nat) : Option An := if 0 ≤ c then (qs[c.toNat]?).bind fun q => q.an[a]? else none
theorem ans_nf (qs : List Qu) : ans (nf qs) = ans qs := by
  funext c a
  unfold ans nf
  split
  · rw [List.getElem?_map]
    cases qs[c.toNat]? <;> rfl
  · rfl
def stp (qs : List Qu) (c : Int) (a : Nat) : Int := match ans qs c a with | some x => x.next | none => -1
/-- the current question behind the answers l -/
def cur (qs : List Qu) (l : List Nat) : Int := l.foldl (stp qs) 0
theorem cur_app (qs : List Qu) (l : List Nat) (a : Nat) : cur qs (l ++ [a]) = stp qs (cur qs l) a := by unfold cur; rw [List.foldl_append]; rfl
theorem cur_nf (qs : List Qu) : cur (nf qs) = cur qs := by
  funext l; unfold cur
  have : stp (nf qs) = stp qs := by funext c a; unfold stp; rw [ans_nf]
  rw [this]
def askd (qs : List Qu) (l : List Nat) : List Int := (List.range l.length).map fun i => cur qs (l.take i)
theorem askd_len (qs : List Qu) (l : List Nat) : (askd qs l).length = l.length := by unfold askd; simp
theorem askd_app (qs : List Qu) (l : List Nat) (a : Nat) : askd qs (l ++ [a]) = askd qs l ++ [cur qs l] := by
  unfold askd
  rw [List.length_append, List.length_singleton, List.range_succ, List.map_append]
  congr 1
  · refine List.map_congr_left fun i hi => ?_
    rw [List.take_append_of_le_length (by have := List.mem_range.1 hi; omega)]
  · simp
/-- l is a way through the questions -/
def Wy (qs : List Qu) (l : List Nat) : Prop := ∀ i a, l[i]? = some a → ∃ x, ans qs (cur qs (l.take i)) a = some x
theorem Wy.nil (qs : List Qu) : Wy qs [] := fun i a h => by simp at h
theorem Wy.snoc {qs : List Qu} {l : List Nat} {a : Nat} {x : An} (h : Wy qs l) (hx : ans qs (cur qs l) a = some x) : Wy qs (l ++ [a]) := fun i b hb => by
  by_cases hi : i < l.length
  · rw [List.getElem?_append_left hi] at hb
    rw [List.take_append_of_le_length (by omega)]
    exact h i b hb
  · have hlt := (List.getElem?_eq_some_iff.1 hb).1
    have e : i = l.length := by simp at hlt; omega
    subst e
    rw [List.take_left]
    simp at hb
    rw [← hb]; exact ⟨x, hx⟩
theorem Wy.init {qs : List Qu} {l : List Nat} {a : Nat} (h : Wy qs (l ++ [a])) : Wy qs l ∧ ∃ x, ans qs (cur qs l) a = some x := by
  constructor
  · intro i b hb
    have hi := (List.getElem?_eq_some_iff.1 hb).1
    have := h i b (by rw [List.getElem?_append_left hi]; exact hb)
    rwa [List.take_append_of_le_length (by omega)] at this
  · have := h l.length a (by simp)
    rwa [List.take_left] at this
theorem Wy_nf (qs : List Qu) (l : List Nat) : Wy (nf qs) l ↔ Wy qs l := by unfold Wy; rw [ans_nf, cur_nf]
theorem ans_at {qs : List Qu} {c : Int} {a : Nat} {x : An} (h : ans qs c a = some x) : 0 ≤ c ∧ ∃ h : c.toNat < qs.length, ∃ h' : a < qs[c.toNat].an.length, qs[c.toNat].an[a] = x := by
  unfold ans at h
  split at h
  · rename_i h0
    refine ⟨h0, ?_⟩
    cases hq : qs[c.toNat]? with
    | none => rw [hq] at h; cases h
    | some q =>
      rw [hq] at h
      obtain ⟨h1, e⟩ := List.getElem?_eq_some_iff.1 hq
      obtain ⟨h2, e2⟩ := List.getElem?_eq_some_iff.1 (show q.an[a]? = some x from h)
      subst e
      exact ⟨h1, h2, e2⟩
  · cases h
theorem ans_of {qs : List Qu} {c : Int} {a : Nat} (h0 : 0 ≤ c) (h : c.toNat < qs.length) (h' : a < qs[c.toNat].an.length) : ans qs c a = some qs[c.toNat].an[a] := by
  unfold ans
  rw [if_pos h0, List.getElem?_eq_getElem h]
  exact List.getElem?_eq_getElem h'
/-- where an interview stands: at a question, or at its end behind an answer -/
theorem cur_or {nm : ByteArray} {ver : Int} {qs : List Qu} (hv : VP nm ver qs) (l : List Nat) (hw : Wy qs l) : (cur qs l = -1 ∧ l ≠ []) ∨ (0 ≤ cur qs l ∧ (cur qs l).toNat < qs.length) := by
  rcases List.eq_nil_or_concat l with e | ⟨l0, a, e⟩
  · subst e; right
    show (0 : Int) ≤ 0 ∧ (0 : Int).toNat < qs.length
    have := hv.2.2.2.1
    exact ⟨Int.le_refl _, by simp; omega⟩
  · rw [List.concat_eq_append] at e
    subst e
    obtain ⟨_, x, hx⟩ := hw.init
    have e : cur qs (l0 ++ [a]) = x.next := by rw [cur_app]; unfold stp; rw [hx]
    obtain ⟨_, h1, h2, h3⟩ := ans_at hx
    rw [e]
    rcases ((hv.1 _ (List.getElem_mem h1)).2.2 x (by rw [← h3]; exact List.getElem_mem h2)).2 with h4 | h4
    · exact .inl ⟨h4.1, by simp⟩
    · exact .inr ⟨h4.2.1.1, by omega⟩
/-- the result of an interview -/
def Rs (qs : List Qu) (l : List Nat) (u : Int) (cd : ByteArray) : Prop := (cur qs l ≠ -1 ∧ u = 0 ∧ cd = ByteArray.empty) ∨ (cur qs l = -1 ∧ ∃ l0 a x, l = l0 ++ [a] ∧ ans qs (cur qs l0) a = some x ∧ u = x.urg ∧ cd = x.code)
theorem Rs.uniq {qs : List Qu} {l : List Nat} {u u' : Int} {cd cd' : ByteArray} (h : Rs qs l u cd) (h' : Rs qs l u' cd') : u = u' ∧ cd = cd' := by
  rcases h with ⟨h1, h2, h3⟩ | ⟨h1, l0, a, x, h2, h3, h4, h5⟩
  · rcases h' with ⟨k1, k2, k3⟩ | ⟨k1, _⟩
    · exact ⟨h2.trans k2.symm, h3.trans k3.symm⟩
    · exact absurd k1 h1
  · rcases h' with ⟨k1, _⟩ | ⟨k1, l1, b, y, k2, k3, k4, k5⟩
    · exact absurd h1 k1
    · have e := h2.symm.trans k2
      obtain ⟨e1, e2⟩ := List.append_inj' e rfl
      subst e1
      injection e2 with e2
      subst e2
      rw [h3] at k3
      injection k3 with k3
      subst k3
      exact ⟨h4.trans k4.symm, h5.trans k5.symm⟩
theorem Rs_nf {qs : List Qu} {l : List Nat} {u : Int} {cd : ByteArray} : Rs (nf qs) l u cd ↔ Rs qs l u cd := by unfold Rs; rw [cur_nf, ans_nf]
/-- the urgencies in which an interview can still end -/
def Ur (qs : List Qu) (l : List Nat) (lo hi : Int) : Prop := (cur qs l = -1 ∧ ∃ u cd, Rs qs l u cd ∧ lo = u ∧ hi = u) ∨ (cur qs l ≠ -1 ∧ UR qs (cur qs l).toNat lo hi)
theorem Ur_nf {qs : List Qu} {l : List Nat} {lo hi : Int} : Ur (nf qs) l lo hi ↔ Ur qs l lo hi := by
  unfold Ur; rw [cur_nf, UR_nf]; simp only [Rs_nf]
theorem UR.uniq {qs : List Qu} {q : Nat} {lo hi lo' hi' : Int} (h : UR qs q lo hi) (h' : UR qs q lo' hi') : lo = lo' ∧ hi = hi' := by
  obtain ⟨h1, h2⟩ := h
  obtain ⟨k1, k2⟩ := h'
  rcases h2 with ⟨h3, h4⟩ | ⟨h3, h4, h5⟩
  · rcases k2 with ⟨k3, k4⟩ | ⟨k3, _⟩
    · have a1 := h1 _ k3; have a2 := h1 _ k4; have a3 := k1 _ h3; have a4 := k1 _ h4; omega
    · exact absurd h3 (k3 _)
  · rcases k2 with ⟨k3, k4⟩ | ⟨k3, k4, k5⟩
    · exact absurd k3 (h3 _)
    · omega
theorem Ur.uniq {qs : List Qu} {l : List Nat} {lo hi lo' hi' : Int} (h : Ur qs l lo hi) (h' : Ur qs l lo' hi') : lo = lo' ∧ hi = hi' := by
  rcases h with ⟨h1, u, cd, h2, h3, h4⟩ | ⟨h1, h2⟩
  · rcases h' with ⟨k1, u', cd', k2, k3, k4⟩ | ⟨k1, k2⟩
    · have := (h2.uniq k2).1; omega
    · exact absurd h1 k1
  · rcases h' with ⟨k1, _⟩ | ⟨k1, k2⟩
    · exact absurd k1 h1
    · exact h2.uniq k2
/-- an interview at g, all of it at B or behind -/
def IvAt (w : World) (B g : Nat) (nm : ByteArray) (ver : Int) (qs : List Qu) (l : List Nat) : Prop := ∃ T cq A2 c2 A3 c3, Blk w g 62 #[.string nm, .int .i64 ver, .slice T qs.length cq, .slice A2 l.length c2, .slice A3 l.length c3, .int .i64 (cur qs l)] ∧ Fw.RdT w 30 T (qs.flatMap Qu.cells) ∧ (∀ q ∈ qs, Fw.RdT w 68 q.A (q.an.flatMap An.cells)) ∧ w.ownsRow B 3 1 (.slice A2 l.length c2) l.length (nats l) ∧ w.ownsRow B 3 1 (.slice A3 l.length c3) l.length ((askd qs l).map (.int .i64)) ∧ (∀ k, A2.map (·.block) = some k → ¬ A3.map (·.block) = some k) ∧ B ≤ g
theorem IvAt.low {w w' : World} {B g : Nat} {nm : ByteArray} {ver : Int} {qs : List Qu} {l : List Nat} (h : IvAt w B g nm ver qs l) (hb : Below w.heap.size w w') : IvAt w' B g nm ver qs l := by
  obtain ⟨T, cq, A2, c2, A3, c3, h1, h2, h3, h4, h5, h6⟩ := h
  exact ⟨T, cq, A2, c2, A3, c3, h1.low hb, h2.low hb, fun q hq => (h3 q hq).low hb, own_below h4 hb (Nat.le_refl _), own_below h5 hb (Nat.le_refl _), h6⟩
theorem dj_app {w : World} {B : Nat} {e : TypeId} {size n m c c3 : Nat} {A2 A3 A' : Option Addr} {xs : List Value} (hN : w.ownsRow B e size (.slice A2 n c) n xs) (hdj : ∀ k, A2.map (·.block) = some k → ¬ A3.map (·.block) = some k) (hrow : A'.map (·.block) = (Value.slice A3 m c3).ownBlock ∨ A'.map (·.block) = some w.heap.size) : ∀ k, A2.map (·.block) = some k → ¬ A'.map (·.block) = some k := fun k hk hk' => by
  rcases hrow with h | h
  · rw [ownBlock_slice] at h
    exact hdj k hk (h ▸ hk')
  · rw [h] at hk'
    injection hk' with hk'
    rcases hN.2 with ⟨h1, _⟩ | ⟨g', cap, cu, h1, hb, hh, _⟩
    · injection h1 with a; subst a; cases hk
    · injection h1 with a; subst a
      injection hk with hk
      have := (Array.getElem?_eq_some_iff.1 hh).1
      have hk2 : g' = k := hk
      omega
theorem own_dj {w w' : World} {B : Nat} {e : TypeId} {size n m c c3 : Nat} {A2 A3 : Option Addr} {xs : List Value} (hN : w.ownsRow B e size (.slice A2 n c) n xs) (hdj : ∀ k, A2.map (·.block) = some k → ¬ A3.map (·.block) = some k) (hc : Chg (fun k => some k = (Value.slice A3 m c3).ownBlock) w w') : w'.ownsRow B e size (.slice A2 n c) n xs :=
  own_to hN hc fun g_ h_ e_ => hdj g_ h_ (by rw [← ownBlock_slice A3 m c3]; exact e_.symm)
theorem dj_flip {A2 A3 : Option Addr} (h : ∀ k, A2.map (·.block) = some k → ¬ A3.map (·.block) = some k) : ∀ k, A3.map (·.block) = some k → ¬ A2.map (·.block) = some k := fun k h1 h2 => h k h2 h1
theorem own_lec {w : World} {base e size n c : Nat} {A : Option Addr} {xs : List Value} (h : w.ownsRow base e size (.slice A n c) n xs) : n ≤ c := by
  rcases h.2 with ⟨h1, _⟩ | ⟨g, cap, cur, h1, _, _, h2, _⟩
  · injection h1 with _ h1 h2; omega
  · injection h1 with _ _ h3; omega
theorem IvAt.base {w : World} {B B' g : Nat} {nm : ByteArray} {ver : Int} {qs : List Qu} {l : List Nat} (h : IvAt w B g nm ver qs l) (hb : B' ≤ B) : IvAt w B' g nm ver qs l := by
  obtain ⟨T, cq, A2, c2, A3, c3, h1, h2, h3, h4, h5, h6, h7⟩ := h
  exact ⟨T, cq, A2, c2, A3, c3, h1, h2, h3, own_base h4 hb, own_base h5 hb, h6, by omega⟩
theorem nf_step {qs ql : List Qu} {k : Nat} (hk : k < qs.length) (h : nf ql = nf (qs.take k)) {A : Option Addr} {c : Nat} : nf (ql ++ [⟨qs[k].text, A, c, qs[k].an⟩]) = nf (qs.take (k + 1)) := by
  have e : ∀ a b : List Qu, nf (a ++ b) = nf a ++ nf b := fun a b => List.map_append
  rw [List.take_succ_eq_append_getElem hk, e, e, h]; rfl
theorem nf_len_eq {qs ql : List Qu} (h : nf ql = nf qs) : ql.length = qs.length := by rw [← nf_len ql, h, nf_len]
end Tk
end Go.Proofs.Ytpoacekefhblhaa
