/- TopTalks: graphs of questions, in plain Lean: what a search reaches. -/
import Derived.Test.YtpoacekefhblhaaTk
namespace Go.Proofs.Ytpoacekefhblhaa
set_option linter.unusedSimpArgs false
set_option linter.unusedVariables false
open Go.RowKit
namespace Tk
inductive Rc (E : Nat → Nat → Prop) : Nat → Nat → Prop
  | refl (x : Nat) : Rc E x x
  | tail {x y z : Nat} : Rc E x y → E y z → Rc E x z
theorem Rc.trans {E : Nat → Nat → Prop} {x y z : Nat} (h : Rc E x y) (h' : Rc E y z) : Rc E x z := by
  induction h' with
  | refl => exact h
  | tail _ e ih => exact ih.tail e
theorem Rc.head {E : Nat → Nat → Prop} {x y z : Nat} (e : E x y) (h : Rc E y z) : Rc E x z := ((Rc.refl x).tail e).trans h
def Cyc (E : Nat → Nat → Prop) (q : Nat) : Prop := ∃ s, E q s ∧ Rc E s q
/-- r follows q -/
def Ef (fs : List Fo) (q r : Nat) : Prop := ∃ h : q < fs.length, r ∈ fs[q].l
def Eq (qs : List Qu) (q r : Nat) : Prop := ∃ h : q < qs.length, ∃ a ∈ qs[q].an, a.next = (r : Int)
def Fol (qs : List Qu) (fs : List Fo) : Prop := fs.length = qs.length ∧ ∀ q r, Ef fs q r ↔ Eq qs q r
theorem Fol.eq {qs : List Qu} {fs : List Fo} (h : Fol qs fs) : Ef fs = Eq qs := by
  funext q r; exact propext (h.2 q r)
def Nb (fs : List Fo) : Prop := ∀ f ∈ fs, ∀ r ∈ f.l, r < fs.length
def Sm (fs : List Fo) : Prop := fs.length ≤ 64 ∧ ∀ f ∈ fs, f.l.length ≤ 16
/-- the followers of what has not been reached -/
def todo : List Fo → List Bool → Nat
  | f :: fs, b :: rs => (if b then 0 else f.l.length) + todo fs rs
  | _, _ => 0
theorem todo_set : ∀ {fs : List Fo} {rs : List Bool} {q : Nat} (h : q < fs.length) (h' : q < rs.length), rs[q] = false → todo fs (rs.set q true) + fs[q].l.length = todo fs rs
  | f :: fs, b :: rs, 0, _, _, e => by
    simp at e; subst e
    simp [todo]; omega
  | f :: fs, b :: rs, q + 1, h, h', e => by
    have := todo_set (fs := fs) (rs := rs) (q := q) (by simpa using h) (by simpa using h') (by simpa using e)
    simp [todo]; omega
theorem todo_le : ∀ {fs : List Fo} (rs : List Bool), (∀ f ∈ fs, f.l.length ≤ 16) → todo fs rs ≤ fs.length * 16
  | [], _, _ => by simp [todo]
  | f :: fs, [], _ => by simp [todo]
  | f :: fs, b :: rs, h => by
    have h1 := todo_le (fs := fs) rs (fun x hx => h x (List.mem_cons_of_mem _ hx))
    have h2 := h f (List.mem_cons_self ..)
    simp only [todo, List.length_cons]
    split <;> omega
/-- what a search has seen: lst is its list, of which k are done -/
structure Bf (fs : List Fo) (fr lst : List Nat) (rs : List Bool) (k : Nat) : Prop where
  len : rs.length = fs.length
  frm : ∀ s ∈ fr, s ∈ lst
  inl : ∀ x ∈ lst, ∃ s ∈ fr, Rc (Ef fs) s x
  lt : ∀ x ∈ lst, x < fs.length
  dn : ∀ i x, i < k → lst[i]? = some x → rs[x]? = some true
  sub : ∀ q, rs[q]? = some true → q ∈ lst
  cl : ∀ q r, rs[q]? = some true → Ef fs q r → r ∈ lst
  le : k ≤ lst.length
  sm : lst.length + todo fs rs ≤ fr.length + fs.length * 16
theorem rep_false {n q : Nat} : ¬ (List.replicate n false)[q]? = some true := fun h => by
  rw [List.getElem?_replicate] at h
  split at h <;> simp at h
theorem Bf.start {fs : List Fo} {fr : List Nat} (hs : Sm fs) (hf : ∀ s ∈ fr, s < fs.length) : Bf fs fr fr (List.replicate fs.length false) 0 :=
  ⟨by simp, fun _ h => h, fun x hx => ⟨x, hx, .refl x⟩, hf, fun i x h => absurd h (Nat.not_lt_zero _), fun q h => absurd h rep_false, fun q r h => absurd h rep_false, Nat.zero_le _, by have := todo_le (List.replicate fs.length false) hs.2; omega⟩
theorem Bf.skip {fs : List Fo} {fr lst : List Nat} {rs : List Bool} {k : Nat} (h : Bf fs fr lst rs k) (hk : k < lst.length) (hr : rs[lst[k]]? = some true) : Bf fs fr lst rs (k + 1) :=
  { h with
    dn := fun i x hi hx => by
      rcases Nat.lt_succ_iff_lt_or_eq.1 hi with hi | hi
      · exact h.dn i x hi hx
      · subst hi; rw [List.getElem?_eq_getElem hk] at hx; injection hx with hx; rw [← hx]; exact hr
    le := hk }
theorem set_true {rs : List Bool} {q x : Nat} : (rs.set q true)[x]? = some true ↔ (x = q ∧ q < rs.length) ∨ rs[x]? = some true := by
  rw [List.getElem?_set]
  by_cases h : q = x
  · subst h
    rw [if_pos rfl]
    by_cases hq : q < rs.length
    · simp [hq]
    · simp [hq]
  · rw [if_neg h]
    constructor
    · exact Or.inr
    · rintro (⟨e, _⟩ | e)
      · exact absurd e.symm h
      · exact e
theorem Bf.take {fs : List Fo} {fr lst : List Nat} {rs : List Bool} {k : Nat} (h : Bf fs fr lst rs k) (hn : Nb fs) (hk : k < lst.length) (hq : lst[k] < fs.length) (hr : rs[lst[k]]'(by rw [h.len]; exact hq) = false) : Bf fs fr (lst ++ fs[lst[k]].l) (rs.set lst[k] true) (k + 1) := by
  have hq' : lst[k] < rs.length := by rw [h.len]; exact hq
  have hm : lst[k] ∈ lst := List.getElem_mem hk
  refine ⟨by rw [List.length_set]; exact h.len, fun s hs => List.mem_append_left _ (h.frm s hs), fun x hx => ?_, fun x hx => ?_, fun i x hi hx => ?_, fun q hq => ?_, fun q r hq hr => ?_, by rw [List.length_append]; omega, ?_⟩
  · rcases List.mem_append.1 hx with hx | hx
    · exact h.inl x hx
    · obtain ⟨s, hs, hc⟩ := h.inl _ hm
      exact ⟨s, hs, hc.tail ⟨hq, hx⟩⟩
  · rcases List.mem_append.1 hx with hx | hx
    · exact h.lt x hx
    · exact hn _ (List.getElem_mem hq) x hx
  · have hil : i < lst.length := by omega
    rw [List.getElem?_append_left hil] at hx
    rw [set_true]
    rcases Nat.lt_succ_iff_lt_or_eq.1 hi with hi | hi
    · exact .inr (h.dn i x hi hx)
    · subst hi; rw [List.getElem?_eq_getElem hk] at hx; injection hx with hx; exact .inl ⟨hx.symm, hq'⟩
  · rcases set_true.1 hq with ⟨e, _⟩ | e
    · rw [e]; exact List.mem_append_left _ hm
    · exact List.mem_append_left _ (h.sub q e)
  · rcases set_true.1 hq with ⟨e, _⟩ | e
    · subst e; obtain ⟨_, hr⟩ := hr; exact List.mem_append_right _ hr
    · exact List.mem_append_left _ (h.cl q r e hr)
  · have := todo_set (fs := fs) (rs := rs) hq hq' hr
    have := h.sm
    rw [List.length_append]; omega
/-- what a search has found -/
def Reached (E : Nat → Nat → Prop) (fr : List Nat) (rs : List Bool) : Prop := ∀ q, rs[q]? = some true ↔ ∃ s ∈ fr, Rc E s q
theorem Bf.all {fs : List Fo} {fr lst : List Nat} {rs : List Bool} {k : Nat} (h : Bf fs fr lst rs k) (hk : ¬ k < lst.length) : Reached (Ef fs) fr rs := fun q => by
  have hall : ∀ x ∈ lst, rs[x]? = some true := fun x hx => by
    obtain ⟨i, hi⟩ := List.mem_iff_getElem?.1 hx
    have : i < lst.length := (List.getElem?_eq_some_iff.1 hi).1
    exact h.dn i x (by omega) hi
  constructor
  · intro hq; exact h.inl q (h.sub q hq)
  · rintro ⟨s, hs, hc⟩
    induction hc with
    | refl => exact hall _ (h.frm s hs)
    | tail _ e ih => exact hall _ (h.cl _ _ (ih) e)
/-- the answers that lead to questions -/
def nexts : List An → List Int
  | [] => []
  | a :: l => if 0 ≤ a.next then a.next :: nexts l else nexts l
theorem mem_nexts {x : Int} : ∀ {l : List An}, x ∈ nexts l ↔ 0 ≤ x ∧ ∃ a ∈ l, a.next = x
  | [] => by simp [nexts]
  | a :: l => by
    have ih := mem_nexts (x := x) (l := l)
    unfold nexts
    split
    · rw [List.mem_cons, ih]
      constructor
      · rintro (e | ⟨h, a', ha, e⟩)
        · exact ⟨by omega, a, List.mem_cons_self .., e.symm⟩
        · exact ⟨h, a', List.mem_cons_of_mem _ ha, e⟩
      · rintro ⟨h, a', ha, e⟩
        rcases List.mem_cons.1 ha with ha | ha
        · subst ha; exact .inl e.symm
        · exact .inr ⟨h, a', ha, e⟩
    · rw [ih]
      constructor
      · rintro ⟨h, a', ha, e⟩; exact ⟨h, a', List.mem_cons_of_mem _ ha, e⟩
      · rintro ⟨h, a', ha, e⟩
        rcases List.mem_cons.1 ha with ha | ha
        · subst ha; omega
        · exact ⟨h, a', ha, e⟩
theorem nexts_app : ∀ (l l' : List An), nexts (l ++ l') = nexts l ++ nexts l'
  | [], l' => rfl
  | a :: l, l' => by
    have ih := nexts_app l l'
    show (if _ then _ else _) = (if _ then _ else _) ++ _
    split
    · exact congrArg (a.next :: ·) ih
    · exact ih
theorem nexts_step {l : List An} {k : Nat} (h : k < l.length) : nexts (l.take (k + 1)) = if 0 ≤ l[k].next then nexts (l.take k) ++ [l[k].next] else nexts (l.take k) := by
  rw [List.take_succ_eq_append_getElem h, nexts_app]
  show _ ++ (if _ then _ else _) = _
  split
  · rfl
  · show _ ++ [] = _; rw [List.append_nil]
theorem nexts_len : ∀ (l : List An), (nexts l).length ≤ l.length
  | [] => Nat.le_refl _
  | a :: l => by have := nexts_len l; unfold nexts; split <;> simp <;> omega
/-- the urgencies of the answers that end -/
def terms : List An → List Int
  | [] => []
  | a :: l => if 0 ≤ a.next then terms l else a.urg :: terms l
theorem mem_terms {x : Int} : ∀ {l : List An}, x ∈ terms l ↔ ∃ a ∈ l, a.next < 0 ∧ a.urg = x
  | [] => by simp [terms]
  | a :: l => by
    have ih := mem_terms (x := x) (l := l)
    unfold terms
    split
    · rw [ih]
      constructor
      · rintro ⟨a', ha, e⟩; exact ⟨a', List.mem_cons_of_mem _ ha, e⟩
      · rintro ⟨a', ha, e⟩
        rcases List.mem_cons.1 ha with ha | ha
        · subst ha; omega
        · exact ⟨a', ha, e⟩
    · rw [List.mem_cons, ih]
      constructor
      · rintro (e | ⟨a', ha, e⟩)
        · exact ⟨a, List.mem_cons_self .., by omega, e.symm⟩
        · exact ⟨a', List.mem_cons_of_mem _ ha, e⟩
      · rintro ⟨a', ha, e⟩
        rcases List.mem_cons.1 ha with ha | ha
        · subst ha; exact .inl e.2.symm
        · exact .inr ⟨a', ha, e⟩
theorem terms_app : ∀ (l l' : List An), terms (l ++ l') = terms l ++ terms l'
  | [], l' => rfl
  | a :: l, l' => by
    have ih := terms_app l l'
    show (if _ then _ else _) = (if _ then _ else _) ++ _
    split
    · exact ih
    · exact congrArg (a.urg :: ·) ih
theorem terms_step {l : List An} {k : Nat} (h : k < l.length) : terms (l.take (k + 1)) = if 0 ≤ l[k].next then terms (l.take k) else terms (l.take k) ++ [l[k].urg] := by
  rw [List.take_succ_eq_append_getElem h, terms_app]
  show _ ++ (if _ then _ else _) = _
  split
  · show _ ++ [] = _; rw [List.append_nil]
  · rfl
/-- the urgencies in which the first k questions end, of those that rs marks -/
def outs (qs : List Qu) (rs : List Bool) : Nat → List Int
  | 0 => []
  | k + 1 => outs qs rs k ++ (if rs[k]? = some true then (match qs[k]? with | some q => terms q.an | none => []) else [])
theorem outs_take {qs : List Qu} {rs : List Bool} {k : Nat} (h : k < qs.length) (h' : k < rs.length) (e : rs[k] = true) : outs qs rs (k + 1) = outs qs rs k ++ terms qs[k].an := by
  show _ ++ (if _ then _ else _) = _
  rw [if_pos (by rw [List.getElem?_eq_getElem h', e]), List.getElem?_eq_getElem h]
theorem outs_skip {qs : List Qu} {rs : List Bool} {k : Nat} (h' : k < rs.length) (e : rs[k] = false) : outs qs rs (k + 1) = outs qs rs k := by
  show _ ++ (if _ then _ else _) = _
  rw [if_neg (by rw [List.getElem?_eq_getElem h', e]; simp), List.append_nil]
theorem mem_outs {qs : List Qu} {rs : List Bool} {u : Int} : ∀ {k : Nat}, u ∈ outs qs rs k ↔ ∃ r, r < k ∧ rs[r]? = some true ∧ ∃ h : r < qs.length, ∃ a ∈ qs[r].an, a.next < 0 ∧ a.urg = u
  | 0 => by simp [outs]
  | k + 1 => by
    have ih := mem_outs (qs := qs) (rs := rs) (u := u) (k := k)
    show u ∈ _ ++ (if _ then _ else _) ↔ _
    rw [List.mem_append, ih]
    constructor
    · rintro (⟨r, h1, h2⟩ | h)
      · exact ⟨r, by omega, h2⟩
      · split at h
        · rename_i h1
          split at h
          · rename_i q hq
            obtain ⟨h2, e⟩ := List.getElem?_eq_some_iff.1 hq
            exact ⟨k, by omega, h1, h2, by rw [e]; exact mem_terms.1 h⟩
          · cases h
        · cases h
    · rintro ⟨r, h1, h2, h3, h4⟩
      rcases Nat.lt_succ_iff_lt_or_eq.1 h1 with h1 | h1
      · exact .inl ⟨r, h1, h2, h3, h4⟩
      · subst h1
        rw [if_pos h2, List.getElem?_eq_getElem h3]
        exact .inr (mem_terms.2 h4)
/-- the least and the greatest; 0 and 0 of none -/
def Mm (us : List Int) (lo hi : Int) : Prop := (∀ u ∈ us, 1 ≤ u) ∧ (∀ u ∈ us, lo ≤ u ∧ u ≤ hi) ∧ ((lo ∈ us ∧ hi ∈ us) ∨ (us = [] ∧ lo = 0 ∧ hi = 0))
theorem Mm.start : Mm [] 0 0 := ⟨(fun _ h => by cases h), (fun _ h => by cases h), .inr ⟨rfl, rfl, rfl⟩⟩
theorem Mm.add {us : List Int} {lo hi u : Int} (h : Mm us lo hi) (h1 : 1 ≤ u) : Mm (us ++ [u]) (if lo = 0 ∨ u < lo then u else lo) (if u > hi then u else hi) := by
  obtain ⟨h2, h3, h4⟩ := h
  refine ⟨fun x hx => ?_, fun x hx => ?_, ?_⟩
  · rcases List.mem_append.1 hx with hx | hx
    · exact h2 x hx
    · rw [List.mem_singleton.1 hx]; exact h1
  · rcases List.mem_append.1 hx with hx | hx
    · have := h3 x hx
      have := h2 x hx
      rcases h4 with ⟨h5, h6⟩ | ⟨h5, _⟩
      · have := h2 _ h5
        split <;> split <;> omega
      · rw [h5] at hx; cases hx
    · rw [List.mem_singleton.1 hx]
      split <;> split <;> omega
  · left
    rcases h4 with ⟨h5, h6⟩ | ⟨h5, h6, h7⟩
    · refine ⟨?_, ?_⟩
      · split
        · simp
        · exact List.mem_append_left _ h5
      · split
        · simp
        · exact List.mem_append_left _ h6
    · refine ⟨?_, ?_⟩
      · rw [if_pos (.inl h6)]; simp
      · rw [if_pos (by omega)]; simp
theorem Mm.lo {us : List Int} {lo hi u : Int} (h : Mm us lo hi) (h1 : 1 ≤ u) (hl : lo = 0 ∨ u < lo) : Mm (us ++ [u]) u (if u > hi then u else hi) := by
  have := h.add h1; rwa [if_pos hl] at this
theorem Mm.hi {us : List Int} {lo hi u : Int} (h : Mm us lo hi) (h1 : 1 ≤ u) (hl : ¬ (lo = 0 ∨ u < lo)) : Mm (us ++ [u]) lo (if u > hi then u else hi) := by
  have := h.add h1; rwa [if_neg hl] at this
/-- an interview at q can end with urgency u -/
def Tm (qs : List Qu) (q : Nat) (u : Int) : Prop := ∃ r, Rc (Eq qs) q r ∧ ∃ h : r < qs.length, ∃ a ∈ qs[r].an, a.next < 0 ∧ a.urg = u
def UR (qs : List Qu) (q : Nat) (lo hi : Int) : Prop := (∀ u, Tm qs q u → lo ≤ u ∧ u ≤ hi) ∧ ((Tm qs q lo ∧ Tm qs q hi) ∨ ((∀ u, ¬ Tm qs q u) ∧ lo = 0 ∧ hi = 0))
theorem Mm.ur {qs : List Qu} {rs : List Bool} {q : Nat} {lo hi : Int} (h : Mm (outs qs rs qs.length) lo hi) (hr : Reached (Eq qs) [q] rs) : UR qs q lo hi := by
  have hm : ∀ u, u ∈ outs qs rs qs.length ↔ Tm qs q u := fun u => by
    rw [mem_outs]
    constructor
    · rintro ⟨r, h1, h2, h3⟩
      obtain ⟨s, hs, hc⟩ := (hr r).1 h2
      rw [List.mem_singleton.1 hs] at hc
      exact ⟨r, hc, h3⟩
    · rintro ⟨r, h1, h2, h3⟩
      exact ⟨r, h2, (hr r).2 ⟨q, List.mem_singleton.2 rfl, h1⟩, h2, h3⟩
  obtain ⟨_, h3, h4⟩ := h
  refine ⟨fun u hu => h3 u ((hm u).2 hu), ?_⟩
  rcases h4 with ⟨h5, h6⟩ | ⟨h5, h6⟩
  · exact .inl ⟨(hm _).1 h5, (hm _).1 h6⟩
  · exact .inr ⟨(fun u hu => by have := (hm u).2 hu; rw [h5] at this; cases this), h6⟩
/-- what passes the check -/
def Good (nm : ByteArray) (ver : Int) (qs : List Qu) : Prop := VP nm ver qs ∧ (∀ q, q < qs.length → ¬ Cyc (Eq qs) q) ∧ ∀ q, q < qs.length → Rc (Eq qs) 0 q
theorem VP.nb {nm : ByteArray} {ver : Int} {qs : List Qu} {fs : List Fo} (h : VP nm ver qs) (hf : Fol qs fs) : Nb fs := fun f hm r hr => by
  obtain ⟨q, hq, e⟩ := List.getElem_of_mem hm
  obtain ⟨h1, a, ha, e1⟩ := (hf.2 q r).1 ⟨hq, by rw [e]; exact hr⟩
  rw [hf.1]
  rcases ((h.1 _ (List.getElem_mem h1)).2.2 a ha).2 with h2 | h2
  · omega
  · omega
theorem VP.urg {nm : ByteArray} {ver : Int} {qs : List Qu} (h : VP nm ver qs) {q j : Nat} (hq : q < qs.length) (hj : j < qs[q].an.length) (hn : ¬ 0 ≤ qs[q].an[j].next) : 1 ≤ qs[q].an[j].urg := by
  rcases ((h.1 _ (List.getElem_mem hq)).2.2 _ (List.getElem_mem hj)).2 with h2 | h2
  · omega
  · omega
theorem nats_of {l : List Int} (h : ∀ x ∈ l, 0 ≤ x) : nats (l.map Int.toNat) = l.map (Value.int .i64) := by
  unfold nats
  rw [List.map_map]
  refine List.map_congr_left fun x hx => ?_
  have := h x hx
  simp [Int.toNat_of_nonneg this]
end Tk
end Go.Proofs.Ytpoacekefhblhaa
