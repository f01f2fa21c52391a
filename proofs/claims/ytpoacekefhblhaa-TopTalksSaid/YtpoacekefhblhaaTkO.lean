/- TopTalks: the order of a search in depth, in plain words. -/
import Derived.Test.YtpoacekefhblhaaTkC
namespace Go.Proofs.Ytpoacekefhblhaa
set_option linter.unusedSimpArgs false
set_option linter.unusedVariables false
open Go.RowKit
namespace Tk
/-- how many have not been visited -/
def cnt : List Bool → Nat
  | [] => 0
  | b :: l => (if b then 0 else 1) + cnt l
theorem cnt_set : ∀ {l : List Bool} {q : Nat}, l[q]? = some false → cnt (l.set q true) + 1 = cnt l
  | b :: l, 0, h => by simp at h; subst h; simp [cnt]; omega
  | b :: l, q + 1, h => by
    have := cnt_set (l := l) (q := q) (by simpa using h)
    simp [cnt]; omega
theorem cnt_pos {l : List Bool} {q : Nat} (h : l[q]? = some false) : 0 < cnt l := by have := cnt_set h; omega
/-- each behind all that can follow it, and none twice -/
def Po (fs : List Fo) (lst : List Nat) : Prop := ∀ i (h : i < lst.length), lst[i] ∉ lst.take i ∧ ∀ r, Ef fs lst[i] r → r ∈ lst.take i
theorem Po.snoc {fs : List Fo} {lst : List Nat} {q : Nat} (h : Po fs lst) (h1 : q ∉ lst) (h2 : ∀ r, Ef fs q r → r ∈ lst) : Po fs (lst ++ [q]) := fun i hi => by
  by_cases hl : i < lst.length
  · have := h i hl
    rw [List.getElem_append_left hl, List.take_append_of_le_length (by omega)]
    exact this
  · have e : i = lst.length := by simp at hi; omega
    subst e
    rw [List.getElem_append_right (by omega), List.take_left]
    simp only [Nat.sub_self, List.getElem_cons_zero]
    exact ⟨h1, h2⟩
structure Pst (fs : List Fo) (vs : List Bool) (lst : List Nat) : Prop where
  len : vs.length = fs.length
  sub : ∀ x ∈ lst, vs[x]? = some true
  po : Po fs lst
/-- from (vs, lst) a visit has come to (vs', lst') -/
structure Dfs (fs : List Fo) (vs : List Bool) (lst : List Nat) (vs' : List Bool) (lst' : List Nat) : Prop where
  pst : Pst fs vs' lst'
  mono : ∀ x : Nat, vs[x]? = some true → vs'[x]? = some true
  lmono : ∀ x ∈ lst, x ∈ lst'
  act : ∀ x : Nat, vs'[x]? = some true → x ∉ lst' → vs[x]? = some true ∧ x ∉ lst
  new : ∀ x ∈ lst', x ∈ lst ∨ ¬ vs[x]? = some true
  sz : lst'.length + cnt vs' ≤ lst.length + cnt vs
  cn : cnt vs' ≤ cnt vs
/-- a visit of q is under way: j of its followers are done -/
structure Dl (fs : List Fo) (q : Nat) (vs : List Bool) (lst : List Nat) (vs' : List Bool) (lst' : List Nat) (j : Nat) : Prop where
  pst : Pst fs vs' lst'
  mono : ∀ x : Nat, vs[x]? = some true → vs'[x]? = some true
  lmono : ∀ x ∈ lst, x ∈ lst'
  act : ∀ x : Nat, vs'[x]? = some true → x ∉ lst' → (vs[x]? = some true ∧ x ∉ lst) ∨ x = q
  act2 : ∀ x : Nat, vs'[x]? = some true → x ∉ lst' → Rc (Ef fs) x q
  new : ∀ x ∈ lst', x ∈ lst ∨ ¬ vs[x]? = some true
  qv : vs'[q]? = some true
  ql : q ∉ lst'
  fol : ∀ (h : q < fs.length) i r, i < j → fs[q].l[i]? = some r → r ∈ lst'
  sz : lst'.length + 1 + cnt vs' ≤ lst.length + cnt vs
  cn : cnt vs' + 1 ≤ cnt vs
theorem Dl.start {fs : List Fo} {q : Nat} {vs : List Bool} {lst : List Nat} (h : Pst fs vs lst) (hv : vs[q]? = some false) (ha : ∀ x : Nat, vs[x]? = some true → x ∉ lst → Rc (Ef fs) x q) : Dl fs q vs lst (vs.set q true) lst 0 := by
  have hq : q < vs.length := (List.getElem?_eq_some_iff.1 hv).1
  have hql : q ∉ lst := fun hm => by have := h.sub q hm; rw [hv] at this; simp at this
  have hc := cnt_set hv
  refine ⟨⟨by rw [List.length_set]; exact h.len, fun x hx => set_true.2 (.inr (h.sub x hx)), h.po⟩, fun x hx => set_true.2 (.inr hx), fun x hx => hx, fun x hx hn => ?_, fun x hx hn => ?_, fun x hx => .inl hx, set_true.2 (.inl ⟨rfl, hq⟩), hql, fun _ i r hi => absurd hi (Nat.not_lt_zero _), by omega, by omega⟩
  · rcases set_true.1 hx with ⟨e, _⟩ | e
    · exact .inr e
    · exact .inl ⟨e, hn⟩
  · rcases set_true.1 hx with ⟨e, _⟩ | e
    · rw [e]; exact .refl q
    · exact ha x e hn
theorem Dl.seen {fs : List Fo} {q : Nat} {vs : List Bool} {lst : List Nat} {vs' : List Bool} {lst' : List Nat} {j : Nat} (h : Dl fs q vs lst vs' lst' j) (hac : ¬ Cyc (Ef fs) q) (hq : q < fs.length) (hj : j < fs[q].l.length) (hv : vs'[fs[q].l[j]]? = some true) : Dl fs q vs lst vs' lst' (j + 1) :=
  { h with
    fol := fun h' i r hi hr => by
      rcases Nat.lt_succ_iff_lt_or_eq.1 hi with hi | hi
      · exact h.fol h' i r hi hr
      · subst hi
        rw [List.getElem?_eq_getElem hj] at hr
        injection hr with hr
        rw [← hr]
        exact Classical.byContradiction fun hn => hac ⟨_, ⟨hq, List.getElem_mem hj⟩, h.act2 _ hv hn⟩ }
theorem Dl.pre {fs : List Fo} {q : Nat} {vs : List Bool} {lst : List Nat} {vs' : List Bool} {lst' : List Nat} {j : Nat} (h : Dl fs q vs lst vs' lst' j) (hq : q < fs.length) (hj : j < fs[q].l.length) : ∀ x : Nat, vs'[x]? = some true → x ∉ lst' → Rc (Ef fs) x fs[q].l[j] := fun x hx hn => (h.act2 x hx hn).tail ⟨hq, List.getElem_mem hj⟩
theorem Dl.step {fs : List Fo} {q : Nat} {vs : List Bool} {lst : List Nat} {vs' : List Bool} {lst' : List Nat} {j : Nat} {vs2 : List Bool} {lst2 : List Nat} (h : Dl fs q vs lst vs' lst' j) (hq : q < fs.length) (hj : j < fs[q].l.length) (h2 : Dfs fs vs' lst' vs2 lst2) (hm : fs[q].l[j] ∈ lst2) : Dl fs q vs lst vs2 lst2 (j + 1) := by
  refine ⟨h2.pst, fun x hx => h2.mono x (h.mono x hx), fun x hx => h2.lmono x (h.lmono x hx), fun x hx hn => ?_, fun x hx hn => ?_, fun x hx => ?_, h2.mono q h.qv, fun hn => ?_, fun h' i r hi hr => ?_, ?_, ?_⟩
  · obtain ⟨h3, h4⟩ := h2.act x hx hn; exact h.act x h3 h4
  · obtain ⟨h3, h4⟩ := h2.act x hx hn; exact h.act2 x h3 h4
  · rcases h2.new x hx with h3 | h3
    · exact h.new x h3
    · exact .inr fun h4 => h3 (h.mono x h4)
  · rcases h2.new q hn with h3 | h3
    · exact h.ql h3
    · exact h3 h.qv
  · rcases Nat.lt_succ_iff_lt_or_eq.1 hi with hi | hi
    · exact h2.lmono r (h.fol h' i r hi hr)
    · subst hi
      rw [List.getElem?_eq_getElem hj] at hr
      injection hr with hr
      rw [← hr]; exact hm
  · have := h2.sz; have := h.sz; omega
  · have := h2.cn; have := h.cn; omega
theorem Dl.done {fs : List Fo} {q : Nat} {vs : List Bool} {lst : List Nat} {vs' : List Bool} {lst' : List Nat} {j : Nat} (h : Dl fs q vs lst vs' lst' j) (hv : vs[q]? = some false) (hq : q < fs.length) (hj : ¬ j < fs[q].l.length) : Dfs fs vs lst vs' (lst' ++ [q]) := by
  have hf : ∀ r, Ef fs q r → r ∈ lst' := fun r ⟨h', hr⟩ => by
    obtain ⟨i, hi⟩ := List.mem_iff_getElem?.1 hr
    have : i < fs[q].l.length := (List.getElem?_eq_some_iff.1 hi).1
    exact h.fol hq i r (by omega) hi
  refine ⟨⟨h.pst.len, fun x hx => ?_, h.pst.po.snoc h.ql hf⟩, h.mono, fun x hx => List.mem_append_left _ (h.lmono x hx), fun x hx hn => ?_, fun x hx => ?_, ?_, ?_⟩
  · rcases List.mem_append.1 hx with hx | hx
    · exact h.pst.sub x hx
    · rw [List.mem_singleton.1 hx]; exact h.qv
  · rcases h.act x hx (fun h3 => hn (List.mem_append_left _ h3)) with h3 | h3
    · exact h3
    · exact absurd (List.mem_append_right _ (List.mem_singleton.2 h3)) hn
  · rcases List.mem_append.1 hx with hx | hx
    · exact h.new x hx
    · rw [List.mem_singleton.1 hx]; exact .inr (by rw [hv]; simp)
  · have := h.sz; rw [List.length_append]; simp; omega
  · have := h.cn; omega
theorem Po.all {fs : List Fo} {lst : List Nat} (h : Po fs lst) {q r : Nat} (hq : q ∈ lst) (hc : Rc (Ef fs) q r) : r ∈ lst := by
  induction hc with
  | refl => exact hq
  | tail _ e ih =>
    obtain ⟨i, hi, e'⟩ := List.getElem_of_mem ih
    exact List.mem_of_mem_take ((h i hi).2 _ (by rw [e']; exact e))
theorem cnt_rep (n : Nat) : cnt (List.replicate n false) = n := by
  induction n with
  | zero => rfl
  | succ n ih => simp [List.replicate_succ, cnt, ih]; omega
theorem pst_start (fs : List Fo) : Pst fs (List.replicate fs.length false) [] := ⟨by simp, (fun x h => by cases h), fun i h => absurd h (Nat.not_lt_zero _)⟩
theorem nmax (a b : Nat) : (if (b : Int) > (a : Int) then (b : Int) else (a : Int)) = ((max a b : Nat) : Int) := by
  split <;> omega
theorem nats_set (l : List Nat) (i v : Nat) : nats (l.set i v) = (nats l).set i (.int .i64 (v : Int)) := by
  unfold nats; rw [List.map_set]
/-- the number at x -/
def gv (gs : List Nat) (x : Nat) : Nat := (gs[x]?).getD 0
theorem gv_at {gs : List Nat} {x : Nat} (h : x < gs.length) : gs[x] = gv gs x := by unfold gv; simp [h]
theorem gv_set {gs : List Nat} {x y v : Nat} (h : x < gs.length) : gv (gs.set x v) y = if y = x then v else gv gs y := by
  unfold gv
  rw [List.getElem?_set]
  by_cases e : x = y
  · subst e; simp [h]
  · rw [if_neg e, if_neg (fun e' => e e'.symm)]
/-- the numbers of questions: i of lst have theirs -/
structure Gi (fs : List Fo) (lst gs : List Nat) (i : Nat) : Prop where
  len : gs.length = fs.length
  one : ∀ x, x ∈ lst.take i → 1 ≤ gv gs x
  fol : ∀ x, x ∈ lst.take i → ∀ r, Ef fs x r → gv gs r + 1 ≤ gv gs x
  zero : ∀ x, x ∉ lst.take i → gv gs x = 0
  le : ∀ x, gv gs x ≤ i
theorem Gi.start (fs : List Fo) (lst : List Nat) : Gi fs lst (List.replicate fs.length 0) 0 := by
  have h : ∀ x, gv (List.replicate fs.length 0) x = 0 := fun x => by
    unfold gv; rw [List.getElem?_replicate]; split <;> rfl
  exact ⟨by simp, (fun x hx => by simp at hx), (fun x hx => by simp at hx), fun x _ => h x, fun x => by rw [h]; omega⟩
/-- .. and j of the followers of the next are looked at -/
structure Gj (fs : List Fo) (q : Nat) (gs gs' : List Nat) (i j : Nat) : Prop where
  len : gs'.length = gs.length
  same : ∀ x, x ≠ q → gv gs' x = gv gs x
  fol : ∀ (h : q < fs.length) k r, k < j → fs[q].l[k]? = some r → gv gs r ≤ gv gs' q
  le : gv gs' q ≤ i
theorem Gj.start {fs : List Fo} {lst gs : List Nat} {i : Nat} (h : Gi fs lst gs i) (q : Nat) : Gj fs q gs gs i 0 := ⟨rfl, fun _ _ => rfl, fun _ k r hk => absurd hk (Nat.not_lt_zero _), h.le q⟩
theorem Gj.step {fs : List Fo} {q : Nat} {lst gs gs' : List Nat} {i j : Nat} (hi : Gi fs lst gs i) (h : Gj fs q gs gs' i j) (hq : q < fs.length) (hj : j < fs[q].l.length) (hne : fs[q].l[j] ≠ q) : Gj fs q gs (gs'.set q (max (gv gs' q) (gv gs' fs[q].l[j]))) i (j + 1) := by
  have hl : q < gs'.length := by rw [h.len, hi.len]; exact hq
  have e : gv (gs'.set q (max (gv gs' q) (gv gs' fs[q].l[j]))) q = max (gv gs' q) (gv gs' fs[q].l[j]) := by rw [gv_set hl, if_pos rfl]
  refine ⟨by rw [List.length_set]; exact h.len, fun x hx => by rw [gv_set hl, if_neg hx]; exact h.same x hx, fun h' k r hk hr => ?_, ?_⟩
  · rw [e]
    rcases Nat.lt_succ_iff_lt_or_eq.1 hk with hk | hk
    · have := h.fol h' k r hk hr; omega
    · subst hk
      rw [List.getElem?_eq_getElem hj] at hr
      injection hr with hr
      rw [← hr, ← h.same _ hne]; omega
  · rw [e]
    have h1 := h.le
    have h2 := hi.le fs[q].l[j]
    rw [h.same _ hne]; omega
theorem Gj.done {fs : List Fo} {lst gs gs' : List Nat} {i j : Nat} (hi : Gi fs lst gs i) (hil : i < lst.length) (h : Gj fs lst[i] gs gs' i j) (hq : lst[i] < fs.length) (hj : ¬ j < fs[lst[i]].l.length) (hp : Po fs lst) : Gi fs lst (gs'.set lst[i] (gv gs' lst[i] + 1)) (i + 1) := by
  have hl : lst[i] < gs'.length := by rw [h.len, hi.len]; exact hq
  obtain ⟨hn, hf⟩ := hp i hil
  have hmem : ∀ x, x ∈ lst.take (i + 1) ↔ x ∈ lst.take i ∨ x = lst[i] := fun x => by
    rw [List.take_succ_eq_append_getElem hil, List.mem_append, List.mem_singleton]
  have g : ∀ x, gv (gs'.set lst[i] (gv gs' lst[i] + 1)) x = if x = lst[i] then gv gs' lst[i] + 1 else gv gs x := fun x => by
    rw [gv_set hl]
    split
    · rfl
    · rename_i e; exact h.same x e
  refine ⟨by rw [List.length_set, h.len, hi.len], fun x hx => ?_, fun x hx r hr => ?_, fun x hx => ?_, fun x => ?_⟩
  · rw [g]; split
    · omega
    · rename_i e
      rcases (hmem x).1 hx with hx | hx
      · exact hi.one x hx
      · exact absurd hx e
  · by_cases e : x = lst[i]
    · subst e
      have hr' := hf r hr
      have hne : r ≠ lst[i] := fun e => hn (by rw [← e]; exact hr')
      rw [g, g, if_neg hne, if_pos rfl]
      obtain ⟨h', hr2⟩ := hr
      obtain ⟨k, hk⟩ := List.mem_iff_getElem?.1 hr2
      have hkl : k < fs[lst[i]].l.length := (List.getElem?_eq_some_iff.1 hk).1
      have := h.fol hq k r (by omega) hk
      omega
    · have hx' : x ∈ lst.take i := by
        rcases (hmem x).1 hx with hx | hx
        · exact hx
        · exact absurd hx e
      have hr' : r ∈ lst.take i := by
        obtain ⟨k, hk, ek⟩ := List.getElem_of_mem hx'
        have hk' : k < i := by rw [List.length_take] at hk; omega
        rw [List.getElem_take] at ek
        have h2 := (hp k (by omega)).2 r (by rw [ek]; exact hr)
        exact List.mem_of_mem_take (by rw [List.take_take]; rw [Nat.min_eq_left (by omega)]; exact h2 : r ∈ (lst.take i).take k)
      have hne : r ≠ lst[i] := fun e => hn (by rw [← e]; exact hr')
      rw [g, g, if_neg hne, if_neg e]
      exact hi.fol x hx' r hr
  · rw [g, if_neg (fun e => hx ((hmem x).2 (.inr e)))]
    exact hi.zero x fun h' => hx ((hmem x).2 (.inl h'))
  · rw [g]; split
    · have := h.le; omega
    · have := hi.le x; omega
/-- a bound of the questions from each on -/
def Bd (qs : List Qu) (q m : Nat) : Prop := ∃ g : Nat → Nat, g q = m ∧ ∀ x, Rc (Eq qs) q x → 1 ≤ g x ∧ ∀ r, Eq qs x r → g r + 1 ≤ g x
theorem Gi.bd {qs : List Qu} {fs : List Fo} {lst gs : List Nat} {i q : Nat} (h : Gi fs lst gs i) (hi : ¬ i < lst.length) (hp : Po fs lst) (hq : q ∈ lst) (hf : Fol qs fs) : Bd qs q (gv gs q) := by
  refine ⟨gv gs, rfl, fun x hx => ?_⟩
  rw [← hf.eq] at hx ⊢
  have hm := hp.all hq hx
  have e : lst.take i = lst := List.take_of_length_le (by omega)
  exact ⟨h.one x (by rw [e]; exact hm), h.fol x (by rw [e]; exact hm)⟩
end Tk
end Go.Proofs.Ytpoacekefhblhaa
