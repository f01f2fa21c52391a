/- Layer 27: actions as plain data, and what they do to the units. -/
import Derived.Test.YtmohhociomghhaaUsW
namespace Go.Proofs.Ytmohhociomghhaa
set_option linter.unusedSimpArgs false
set_option linter.unusedVariables false
namespace Us
structure Act where
  k : Int
  s : S
  u : Int
  n : Int
  i : Int
  j : Int
  e : Int
  t : Int
  z : Int
def Act.cells (a : Act) : List Value := [.int .u8 a.k, .int .i64 a.s.u, .int .i64 a.s.q, .int .i64 a.s.s, .int .i64 a.s.n, .int .i64 a.s.e, .int .i64 a.u, .int .i64 a.n, .int .i64 a.i, .int .i64 a.j, .int .i64 a.e, .int .i64 a.t, .int .i64 a.z]
theorem Act.len (a : Act) : a.cells.length = 13 := rfl
def doL (a : Act) (l : List U) : List U :=
  if a.k.tmod 6 = 0 then repL l a.s a.t a.e else if a.k.tmod 6 = 1 then bindL l a.u a.i a.e a.n else if a.k.tmod 6 = 2 then standL l a.u a.e
  else if a.k.tmod 6 = 3 then moveL l a.u a.n a.e else if a.k.tmod 6 = 4 then quietL l a.t a.z a.e else turnL l a.i a.j
def playL (l : List U) (acts : List Act) : List U := acts.foldl (fun l a => doL a l) l
theorem quietW_len (l : List U) (now n e : Int) : (quietW l now n e).length ≤ l.length := by
  unfold quietW; split
  · exact idx_len _ _
  · exact Nat.zero_le _
theorem put_len (l : List U) (i : Int) (u : U) : (put l i u).length = l.length := by unfold put; rw [List.length_set]
theorem doL_len (a : Act) (l : List U) : (doL a l).length = l.length := by
  unfold doL repL bindL standL moveL quietL turnL
  repeat' split
  all_goals first | rfl | exact put_len _ _ _ | exact List.length_map _
theorem playL_len (acts : List Act) : ∀ l : List U, (playL l acts).length = l.length := by
  induction acts with
  | nil => intro l; rfl
  | cons a acts ih => intro l; show (playL (doL a l) acts).length = _; rw [ih, doL_len]
theorem playL_snoc (l : List U) (acts : List Act) (k : Nat) (hk : k < acts.length) : playL l (acts.take (k + 1)) = doL acts[k] (playL l (acts.take k)) := by
  unfold playL; rw [List.take_succ_eq_append_getElem hk, List.foldl_append]; rfl
/-- a unit's step: nothing, or one of the operations' results -/
inductive Step (f : Prop) (u : U) : U → Prop
  | same : Step f u u
  | rep (s : S) (now e : Int) (h : (repB u s && (tickB now && epB u e)) = true) (hq : u.seq < s.q) : Step f u (repU u s now e)
  | bind (inc e n : Int) (h : (incB inc && (epB u e && nodeB n)) = true) (hs : u.state = 1) : Step f u (issue { u with state := 2, inc := inc } e 1 inc n)
  | stand (e : Int) (h : epB u e = true) : Step f u (standU u e)
  | move (n e : Int) (h : (nodeB n && epB u e) = true) (hs : u.state = 1) : Step f u (issue { u with state := 2 } e 3 0 n)
  | quiet (now n e : Int) (h : epB u e = true) : Step f u (quietU u now n e)
  | turn (a b : Int) (h : (incB a && incB b) = true) (hi : u.inc = a) (hf : f) : Step f u { u with inc := b }
theorem step_put {f : Prop} {l : List U} {id : Int} {u' x : U} {i : Nat} (ht : there l id = true) (hs : Step f (get l id) u') (h : (put l id u')[i]? = some x) : ∃ u, l[i]? = some u ∧ Step f u x := by
  unfold put at h
  rw [List.getElem?_set] at h
  split at h
  · next e =>
    split at h
    · next hi =>
      injection h with h; subst h
      have := of_decide_eq_true ht
      have hg : get l id = l[i]'(by omega) := get_at (by omega) (by omega)
      exact ⟨l[i]'(by omega), List.getElem?_eq_getElem _, by rw [← hg]; exact hs⟩
    · cases h
  · exact ⟨x, h, .same⟩
theorem step_map {q : Prop} {l : List U} {f : U → U} {x : U} {i : Nat} (hs : ∀ u ∈ l, Step q u (f u)) (h : (l.map f)[i]? = some x) : ∃ u, l[i]? = some u ∧ Step q u x := by
  rw [List.getElem?_map] at h
  cases hu : l[i]? with
  | none => rw [hu] at h; cases h
  | some u => rw [hu] at h; injection h with h; subst h; exact ⟨u, rfl, hs u (List.mem_of_getElem? hu)⟩
theorem step_do (a : Act) (l : List U) (i : Nat) (x : U) (h : (doL a l)[i]? = some x) : ∃ u, l[i]? = some u ∧ Step (¬ (a.k.tmod 6 = 0 ∨ a.k.tmod 6 = 1 ∨ a.k.tmod 6 = 2 ∨ a.k.tmod 6 = 3 ∨ a.k.tmod 6 = 4)) u x := by
  unfold doL at h
  split at h
  · unfold repL at h
    split at h
    · next hE =>
      unfold repE at hE
      split at hE
      · next hb =>
        rw [Bool.and_eq_true] at hb
        split at hE
        · cases hE
        · exact step_put hb.1 (.rep _ _ _ hb.2 (by omega)) h
      · cases hE
    · exact ⟨x, h, .same⟩
  · split at h
    · unfold bindL at h
      split at h
      · next hE =>
        unfold bindE at hE
        split at hE
        · next hb =>
          rw [Bool.and_eq_true] at hb
          split at hE
          · cases hE
          · next hs => exact step_put hb.1 (.bind _ _ _ hb.2 (Classical.byContradiction hs)) h
        · cases hE
      · exact ⟨x, h, .same⟩
    · split at h
      · unfold standL at h
        split at h
        · next hE =>
          unfold standE at hE
          split at hE
          · next hb =>
            rw [Bool.and_eq_true] at hb
            exact step_put hb.1 (.stand _ hb.2) h
          · cases hE
        · exact ⟨x, h, .same⟩
      · split at h
        · unfold moveL at h
          split at h
          · next hE =>
            unfold moveE at hE
            split at hE
            · next hb =>
              rw [Bool.and_eq_true] at hb
              split at hE
              · cases hE
              · next hs => exact step_put hb.1 (.move _ _ hb.2 (Classical.byContradiction hs)) h
            · cases hE
          · exact ⟨x, h, .same⟩
        · split at h
          · unfold quietL at h
            split at h
            · next hq =>
              unfold quietOk at hq
              rw [Bool.and_eq_true, Bool.and_eq_true] at hq
              exact step_map (fun u hu => .quiet _ _ _ (List.all_eq_true.1 hq.2.2 u hu)) h
            · exact ⟨x, h, .same⟩
          · unfold turnL at h
            split at h
            · next hq =>
              refine step_map (fun u hu => ?_) h
              split
              · next e => exact .turn _ _ hq e (by omega)
              · exact .same
            · exact ⟨x, h, .same⟩
end Us
end Go.Proofs.Ytmohhociomghhaa
