/- Rows of the call's own with one element open; parts of structs; what is written into them. No program is named here. -/
import Derived.Test.YtgpdodhegacndaaGe
namespace Go.Proofs.Ytgpdodhegacndaa
set_option linter.unusedSimpArgs false
set_option linter.unusedVariables false
open Go.RowKit
namespace Fw
variable {ds : List Deferred}
theorem hLdC {P : Program} {n : Nat} {f : Fr} {S' : Nat → Prop} {t ty : TypeId} {ad : Addr} {x : Operand} {v : Value} {wr : World} (ht : ScalT P t) (hx : ev f x = some (.pointer (some ad))) (hc : wr.cell? ad = some v) (hn : ¬ S' ad.block) : Val P n f (Chg S' wr) (.load t x) ty v :=
  val_load ht hx (fun w' hb => by rw [World.cell?_of_block (hb.block _ (World.block_lt_of_cell? wr ad hc) hn)]; exact hc)
theorem add0 (g n : Nat) : (⟨g, 0, none⟩ : Addr).add n = ⟨g, n, none⟩ := by rw [add_flat, Nat.zero_add]
/-- two pieces, with a cut between them: what follows is walked once -/
theorem seq_cut {P : Program} {Q : Exit → Act → World → Prop} {n : Nat} {f : Fr} {w : World} {x y : Code} (F : Fr) (I : World → Prop) (hy : ∀ w, I w → FC P Q n ds y F w)
    (hx : ∀ K : Act → World → Prop, (∀ f w, I w → Sub F f → FX n ds (Exit.then K Q) .normal f w) → FC P (Exit.then K Q) n ds x f w) : FC P Q n ds (.seq x y) f w :=
  seq fun K hK => hx K fun f w hI hs => hK f w ((hy w hI).sub hs)
theorem val_max {P : Program} {n : Nat} {f : Fr} {C : World → Prop} {ty t : TypeId} {x y : Operand} {k k' : IntKind} {a b r : Int} (hx : ev f x = some (.int k a)) (hy : ev f y = some (.int k' b)) (hr : (if b > a then b else a) = r) : Val P n f C (.call ⟨.builtin .max, #[x, y], #[t, t]⟩) ty (.int k r) := fun _ _ _ _ ac w ha _ => by
  subst hr
  unfold execOp; simp only [resolve, Sem.run_bind, Sem.run_pure, Result.andThen_ok, List.map_toArray, List.map_cons, List.map_nil, ha.eval hx, ha.eval hy, invoke, builtin]
  rw [run_max_int2]; simp
theorem val_min {P : Program} {n : Nat} {f : Fr} {C : World → Prop} {ty t : TypeId} {x y : Operand} {k k' : IntKind} {a b r : Int} (hx : ev f x = some (.int k a)) (hy : ev f y = some (.int k' b)) (hr : (if b < a then b else a) = r) : Val P n f C (.call ⟨.builtin .min, #[x, y], #[t, t]⟩) ty (.int k r) := fun _ _ _ _ ac w ha _ => by
  subst hr
  unfold execOp; simp only [resolve, Sem.run_bind, Sem.run_pure, Result.andThen_ok, List.map_toArray, List.map_cons, List.map_nil, ha.eval hx, ha.eval hy, invoke, builtin]
  rw [run_min_int2]; simp
/-- a part of a struct -/
theorem rdPart {w : World} {b o : Nat} {cs : List Value} (h : Rd w (some ⟨b, o, none⟩) cs) (off len : Nat) : Rd w (some ⟨b, o + off, none⟩) ((cs.drop off).take len) := fun j v hj => by
  rw [List.getElem?_take] at hj
  split at hj
  · rw [List.getElem?_drop] at hj
    exact ⟨_, rfl, by rw [add_flat, Nat.add_assoc]; exact rdCell h (off + j) hj⟩
  · cases hj
/-- a row of the call's own; element i is open: its cells are row -/
def At {α : Type} (w : World) (B e m g c : Nat) (cells : α → List Value) (l : List α) (i : Nat) (row : List Value) : Prop :=
  i < l.length ∧ row.length = m ∧ w.ownsRow B e m (.slice (some ⟨g, 0, none⟩) l.length c) l.length ((l.take i).flatMap cells ++ (row ++ (l.drop (i + 1)).flatMap cells))
section
variable {α : Type} {w w' : World} {B e m g c i : Nat} {cells : α → List Value} {l : List α} {row : List Value}
theorem flat_len (hm : ∀ x, (cells x).length = m) (l : List α) : (l.flatMap cells).length = l.length * m := by
  induction l with
  | nil => simp
  | cons a l ih => rw [List.flatMap_cons, List.length_append, hm, ih, List.length_cons, Nat.add_mul]; omega
theorem split_at (l : List α) (i : Nat) (hi : i < l.length) : l.flatMap cells = (l.take i).flatMap cells ++ (cells l[i] ++ (l.drop (i + 1)).flatMap cells) := by
  conv => lhs; rw [← List.take_append_drop i l, List.drop_eq_getElem_cons hi]
  rw [List.flatMap_append, List.flatMap_cons]
theorem At.open_ (hm : ∀ x, (cells x).length = m) (hi : i < l.length) (h : w.ownsRow B e m (.slice (some ⟨g, 0, none⟩) l.length c) l.length (l.flatMap cells)) : At w B e m g c cells l i (cells l[i]) :=
  ⟨hi, hm _, by rw [← split_at l i hi]; exact h⟩
theorem At.close (x : α) (h : At w B e m g c cells l i (cells x)) : w.ownsRow B e m (.slice (some ⟨g, 0, none⟩) (l.set i x).length c) (l.set i x).length ((l.set i x).flatMap cells) := by
  obtain ⟨hi, hr, ho⟩ := h
  have hi' : i < (l.set i x).length := by rw [List.length_set]; exact hi
  rw [split_at (l.set i x) i hi', List.length_set, List.getElem_set_self, List.take_set_of_le (Nat.le_refl i), List.drop_set_of_lt (Nat.lt_succ_self i)]
  exact ho
theorem At.close' (x : α) (h : At w B e m g c cells l i (cells x)) : w.ownsRow B e m (.slice (some ⟨g, 0, none⟩) l.length c) l.length ((l.set i x).flatMap cells) := by
  have := At.close x h
  rwa [List.length_set] at this
theorem At.rd (hm : ∀ x, (cells x).length = m) (h : At w B e m g c cells l i row) : Rd w (some ⟨g, i * m, none⟩) row := fun j v hj => by
  obtain ⟨hi, hr, ho⟩ := h
  have hl : ((l.take i).flatMap cells).length = i * m := by rw [flat_len hm, List.length_take, Nat.min_eq_left (by omega)]
  have hjl : j < row.length := (List.getElem?_eq_some_iff.1 hj).1
  obtain ⟨ad, hA, hc⟩ := Rd.of_own ho (i * m + j) v (by rw [List.getElem?_append_right (by omega), hl, Nat.add_sub_cancel_left, List.getElem?_append_left hjl]; exact hj)
  injection hA with hA; subst hA
  refine ⟨_, rfl, ?_⟩
  rw [add_flat] at hc ⊢
  rw [Nat.zero_add] at hc; exact hc
theorem At.cell (hm : ∀ x, (cells x).length = m) (h : At w B e m g c cells l i row) (f : Nat) {v : Value} (hf : row[f]? = some v) : w.cell? ⟨g, i * m + f, none⟩ = some v := rdCell (h.rd hm) f hf
theorem At.low (h : At w B e m g c cells l i row) (hb : Below w.heap.size w w') : At w' B e m g c cells l i row := ⟨h.1, h.2.1, own_below h.2.2 hb (Nat.le_refl _)⟩
theorem At.chg {S : Nat → Prop} (h : At w B e m g c cells l i row) (hc : Chg S w w') (hg : ¬ S g) : At w' B e m g c cells l i row := ⟨h.1, h.2.1, own_to h.2.2 hc (fun g' hg' e' => by
  have : g = g' := by simpa using hg'
  subst this; exact hg e')⟩
theorem At.kp {ts : List TypeId} (h : At w B e m g c cells l i row) (hk : Kp ts w w') (ht : ts.contains e = false) : At w' B e m g c cells l i row := ⟨h.1, h.2.1, own_kp h.2.2 hk ht⟩
theorem At.lt (h : At w B e m g c cells l i row) : B ≤ g ∧ g < w.heap.size := h.2.2.lt g (by simp [Value.ownBlock])
theorem At.blk (h : At w B e m g c cells l i row) : ∃ cur, Blk w g e cur := by
  obtain ⟨cur, hb, _⟩ := own_at h.2.2; exact ⟨cur, hb⟩
def putL (row : List Value) (k : Nat) (vs : List Value) : List Value := row.take k ++ (vs ++ row.drop (k + vs.length))
theorem putL_len (row : List Value) (k : Nat) (vs : List Value) (h : k + vs.length ≤ row.length) : (putL row k vs).length = row.length := by
  unfold putL; rw [List.length_append, List.length_append, List.length_take, List.length_drop]; omega
theorem seg_put (A R T vs c : List Value) (k n : Nat) (hc : c.take n = A ++ (R ++ T)) (hn : n = A.length + (R.length + T.length)) (hk : k + vs.length ≤ R.length) (hcl : n ≤ c.length) :
    (c.take (A.length + k) ++ vs ++ c.drop (A.length + k + vs.length)).take n = A ++ (putL R k vs ++ T) := by
  obtain ⟨rest, e⟩ : ∃ rest, c = A ++ (R ++ T) ++ rest := ⟨c.drop n, by rw [← hc, List.take_append_drop]⟩
  subst e
  have e1 : (A ++ (R ++ T) ++ rest).take (A.length + k) = A ++ R.take k := by
    rw [List.append_assoc, List.take_append, List.take_of_length_le (by omega), show A.length + k - A.length = k by omega, List.append_assoc, List.take_append_of_le_length (by omega)]
  have e2 : (A ++ (R ++ T) ++ rest).drop (A.length + k + vs.length) = R.drop (k + vs.length) ++ (T ++ rest) := by
    rw [List.append_assoc, List.drop_append, List.drop_of_length_le (by omega), List.nil_append, show A.length + k + vs.length - A.length = k + vs.length by omega, List.append_assoc, List.drop_append_of_le_length (by omega)]
  rw [e1, e2]
  have e3 : A ++ R.take k ++ vs ++ (R.drop (k + vs.length) ++ (T ++ rest)) = (A ++ (putL R k vs ++ T)) ++ rest := by simp [putL]
  rw [e3]
  refine List.take_left' ?_
  rw [List.length_append, List.length_append, putL_len R k vs hk, hn]
theorem set_mid (a row b : List Value) (i m f : Nat) (u : Value) (ha : a.length = i * m) (hf : f < row.length) : (a ++ (row ++ b)).set (i * m + f) u = a ++ (row.set f u ++ b) := by
  rw [List.set_append_right _ _ (by omega), ha, Nat.add_sub_cancel_left, List.set_append_left _ _ hf]
end
section
variable {P : Program} {Q : Exit → Act → World → Prop} {n : Nat} {ops : Array Oper} {rest : List Oper} {f : Fr} {w : World} {d : Nat} {ty : TypeId} {pos : String} {after : Array Edge} {x y : Operand} {v : Value}
/-- a cell of the open element is written -/
theorem storeI {α : Type} {t : TypeId} {B e m g c i k : Nat} {cells : α → List Value} {l : List α} {row : List Value} (hm : ∀ x, (cells x).length = m) (hs : SizeT P t 1) (hx : ev f x = some (.pointer (some ⟨g, i * m + k, none⟩))) (hy : ev f y = some v)
    (ho : At w B e m g c cells l i row) (hk : Nat.blt k row.length = true) (hv : v.cells = #[v]) (h1 : v.oneCell' = true)
    (h : ∀ w', At w' B e m g c cells l i (row.set k v) → Chg (· = g) w w' → FL P Q n ds ops rest f w') : FL P Q n ds ops (⟨none, .store t x y, ty, pos, after, none⟩ :: rest) f w := by
  have hk' : k < row.length := by simpa using hk
  have hl : ((l.take i).flatMap cells).length = i * m := by rw [flat_len hm, List.length_take, Nat.min_eq_left (by have := ho.1; omega)]
  refine storeR hs hx hy ho.2.2 (by rw [List.length_append, hl, List.length_append]; omega) hv h1 fun w' h2 hc => h w' ⟨ho.1, by rw [List.length_set]; exact ho.2.1, ?_⟩ hc
  rw [set_mid _ _ _ i m k v hl hk'] at h2
  exact h2
/-- a part of the open element is written -/
theorem storeIA {α : Type} {t : TypeId} {B e m g c i k z : Nat} {cells : α → List Value} {l : List α} {row : List Value} {vs : Array Value} (hm : ∀ x, (cells x).length = m) (hs : SizeT P t z) (hx : ev f x = some (.pointer (some ⟨g, i * m + k, none⟩))) (hy : ev f y = some (.agg vs)) (hz : vs.size = z)
    (ho : At w B e m g c cells l i row) (hk : Nat.ble (k + z) row.length = true) (h1 : ∀ u ∈ vs.toList, u.oneCell' = true)
    (h : ∀ w', At w' B e m g c cells l i (putL row k vs.toList) → Chg (· = g) w w' → FL P Q n ds ops rest f w') : FL P Q n ds ops (⟨none, .store t x y, ty, pos, after, none⟩ :: rest) f w := by
  subst hz
  have hk' : k + vs.size ≤ row.length := by simpa using hk
  obtain ⟨hi, hr, hown⟩ := ho
  obtain ⟨A, hA⟩ : ∃ A, (l.take i).flatMap cells = A := ⟨_, rfl⟩
  obtain ⟨T, hT⟩ : ∃ T, (l.drop (i + 1)).flatMap cells = T := ⟨_, rfl⟩
  have hl : A.length = i * m := by rw [← hA, flat_len hm, List.length_take, Nat.min_eq_left (by omega)]
  rw [hA, hT] at hown
  obtain ⟨cur, hb, h4, h2, h3, h5, hbase⟩ := own_at hown
  have hkl : (A ++ (row ++ T)).length = l.length * m := hown.1
  have hlen : A.length + (row.length + T.length) = l.length * m := by rw [← hkl, List.length_append, List.length_append]
  have hcm : l.length * m ≤ c * m := Nat.mul_le_mul_right _ h2
  have hcl : l.length * m ≤ cur.toList.length := by rw [show cur.toList.length = cur.size from rfl, h4]; exact hcm
  have hv : vs.toList.length = vs.size := Array.length_toList
  have hseg := seg_put A row T vs.toList cur.toList k (l.length * m) h5 hlen.symm (by rw [hv]; exact hk') hcl
  refine storeA hs hx hy hb (by have := Array.length_toList (xs := cur); omega) h1 fun w' hb' hc => h w' ⟨hi, ?_, ?_⟩ hc
  · rw [putL_len _ _ _ (by rw [hv]; exact hk'), hr]
  · rw [hA, hT]
    refine ⟨?_, .inr ⟨g, c, _, rfl, hbase, hb', h2, h3, ?_, ?_⟩⟩
    · rw [List.length_append, List.length_append, putL_len _ _ _ (by rw [hv]; exact hk')]; exact hlen
    · unfold putRow
      rw [List.size_toArray, List.length_append, List.length_append, List.length_take, List.length_drop, hv]
      have := Array.length_toList (xs := cur); omega
    · unfold putRow
      rw [hl] at hseg
      exact hseg
/-- a part of a box is written -/
theorem storeP {t : TypeId} {g o z : Nat} {te : TypeId} {cs vs : Array Value} (hs : SizeT P t z) (hx : ev f x = some (.pointer (some ⟨g, o, none⟩))) (hy : ev f y = some (.agg vs)) (hb : Blk w g te cs) (hz : vs.size = z) (ho : Nat.ble (o + z) cs.size = true) (h1 : ∀ v ∈ vs.toList, v.oneCell' = true)
    (h : ∀ w', Blk w' g te (putRow cs o vs.toList) → Chg (· = g) w w' → FL P Q n ds ops rest f w') : FL P Q n ds ops (⟨none, .store t x y, ty, pos, after, none⟩ :: rest) f w := by
  subst hz
  exact storeA hs hx hy hb (by simpa using ho) h1 h
end
/-- what is loaded from below B, while nothing below B is changed -/
theorem hLdB {P : Program} {n B : Nat} {f : Fr} {t ty : TypeId} {ad : Addr} {x : Operand} {v : Value} {wr : World} (ht : ScalT P t) (hx : ev f x = some (.pointer (some ad))) (hc : wr.cell? ad = some v) (hn : ad.block < B) : Val P n f (Below B wr) (.load t x) ty v :=
  val_load ht hx (fun w' hb => by rw [hb.cell hn]; exact hc)
/-- what make lays down -/
theorem made {α : Type} {cells : α → List Value} {m : Nat} (x : α) (z : Array Value) (hz : z.toList = cells x) (hm : z.size = m) (k : Nat) : (madeCells z (k * m)).toList = (List.replicate k x).flatMap cells := by
  subst hm
  unfold madeCells
  rw [Array.toList_map, Array.toList_range]
  induction k with
  | zero => simp
  | succ k ih =>
    rw [Nat.add_mul, Nat.one_mul, Nat.add_comm (k * z.size), List.range_add, List.map_append, List.replicate_succ, List.flatMap_cons, List.map_map, ← ih]
    congr 1
    · rw [← hz]
      apply List.ext_getElem
      · simp
      · intro i h1 h2
        have h3 : i < z.size := by simpa using h1
        rw [List.getElem_map, List.getElem_range, Nat.mod_eq_of_lt h3, getElem!_pos z i h3, Array.getElem_toList]
    · apply List.map_congr_left
      intro i _
      show z[(z.size + i) % z.size]! = z[i % z.size]!
      rw [Nat.add_mod_left]
/-- the first k of a, then b -/
def mix {α : Type} (a b : List α) (k : Nat) : List α := a.take k ++ b.drop k
section
variable {α : Type} {a b : List α} {k : Nat}
theorem mix_len (h : a.length = b.length) : (mix a b k).length = b.length := by
  unfold mix; rw [List.length_append, List.length_take, List.length_drop]; omega
theorem mix_zero : mix a b 0 = b := by simp [mix]
theorem mix_all (h : a.length = b.length) (hk : k = b.length) : mix a b k = a := by
  subst hk; unfold mix; rw [List.drop_length, ← h, List.take_length, List.append_nil]
theorem mix_get (h : a.length = b.length) (hk : k < b.length) : (mix a b k)[k]'(by rw [mix_len h]; exact hk) = b[k] := by
  unfold mix
  rw [List.getElem_append_right (by rw [List.length_take]; omega)]
  simp only [List.length_take, List.getElem_drop]
  congr 1; omega
theorem mix_set (h : a.length = b.length) (hk : k < b.length) : (mix a b k).set k (a[k]'(by omega)) = mix a b (k + 1) := by
  unfold mix
  have hl : (a.take k).length = k := by rw [List.length_take]; omega
  rw [List.set_append_right _ _ (by omega), hl, Nat.sub_self, List.take_succ_eq_append_getElem (by omega), List.drop_eq_getElem_cons hk, List.set_cons_zero, List.append_assoc]
  rfl
theorem mix_same (h : a.length = b.length) (hk : k < b.length) (e : a[k]'(by omega) = b[k]) : mix a b k = mix a b (k + 1) := by
  rw [← mix_set h hk, e, ← mix_get h hk, List.set_getElem_self]
end
theorem ResL.cellM {P : Program} {f : Fr} {w : World} {t ty m : Nat} {ad : Addr} {cs : List Value} {rs : List ResultVar} {vs : List Value} (h : get f t = some (.pointer (some ad))) (ha : AggT P ty m) (hc : Rd w (some ad) cs) (hm : cs.length = m) (hr : ResL P f w rs vs) : ResL P f w (.cell t ty :: rs) (.agg cs.toArray :: vs) := by
  subst hm; exact .cell h ha hc hr
theorem At.mopen {α : Type} {w : World} {B e m g c k : Nat} {cells : α → List Value} {a b : List α} (hm : ∀ x, (cells x).length = m) (h : a.length = b.length) (hk : k < b.length) (ho : w.ownsRow B e m (.slice (some ⟨g, 0, none⟩) b.length c) b.length ((mix a b k).flatMap cells)) : At w B e m g c cells (mix a b k) k (cells b[k]) := by
  have hl : k < (mix a b k).length := by rw [mix_len h]; exact hk
  have := At.open_ (c := c) (i := k) (l := mix a b k) hm hl (by rw [mix_len h]; exact ho)
  rwa [mix_get h hk] at this
theorem At.mclose {α : Type} {w : World} {B e m g c k : Nat} {cells : α → List Value} {a b : List α} (h : a.length = b.length) (hk : k < b.length) (x : α) (hx : a[k]'(by omega) = x) (ha : At w B e m g c cells (mix a b k) k (cells x)) : w.ownsRow B e m (.slice (some ⟨g, 0, none⟩) b.length c) b.length ((mix a b (k + 1)).flatMap cells) := by
  have := At.close' x ha
  rw [mix_len h] at this
  subst hx
  rwa [mix_set h hk] at this
theorem makeG {P : Program} {Q : Exit → Act → World → Prop} {n d : Nat} {f : Fr} {w : World} {ops : Array Oper} {rest : List Oper} {x y : Operand} {ty : TypeId} {pos : String} {after : Array Edge} {t e : TypeId} {size bytes base : Nat} {z : Value} {kl kc : IntKind} {L C : Int} (k : Nat) (hT : SlT P t e size bytes) (hz : (P.info? e).bind (·.zero) = some z) (hx : ev f x = some (.int kl L)) (hy : ev f y = some (.int kc C)) (hL : L = (k : Int)) (hC : C = (k : Int))
    (hb : bytes * k ≤ 281474976710656) (hm : k ≤ maxLen) (hbase : base ≤ w.heap.size) (hd : Nat.blt d n = true)
    (h : ∀ w' g, g = w.heap.size → w'.ownsRow base e size (.slice (some ⟨g, 0, none⟩) k k) k (madeCells z.cells (k * size)).toList → Below w.heap.size w w' → FL P Q n ds ops rest ((d, .slice (some ⟨g, 0, none⟩) k k) :: f) w') :
    FL P Q n ds ops (⟨some d, .makeSlice t x y, ty, pos, after, none⟩ :: rest) f w := make k hT hz hx hy hL hC hb hm hbase hd fun w' h1 h2 => h w' _ rfl h1 h2
theorem add00 (g n : Nat) : (⟨g, 0, none⟩ : Addr).add n = ⟨g, n + 0, none⟩ := by rw [add_flat, Nat.zero_add, Nat.add_zero]
theorem own_some {w : World} {B e m n c : Nat} {A : Option Addr} {xs : List Value} {x : Option Nat} {y : Nat} (h : w.ownsRow B e m (.slice A n c) n xs) (hr : A.map (·.block) = x ∨ A.map (·.block) = some y) (hx : x.isSome = true) : ∃ g, A = some ⟨g, 0, none⟩ := by
  rcases h.2 with ⟨h1, _⟩ | ⟨g, cap, cur, h1, _⟩
  · injection h1 with h1; subst h1
    rcases hr with hr | hr
    · rw [← hr] at hx; cases hx
    · cases hr
  · injection h1 with h1; exact ⟨g, h1⟩
theorem hTake2 {P : Program} {Q : Exit → Act → World → Prop} {S : World → Prop} {n d fuel : Nat} {ops : Array Oper} {listed : Array Bool} {f : Fr} {w : World} {o : Oper} {p : Prop} [Decidable p] (i : Nat) (hi : ops[i]? = some o) (ho : o.dst = some d) (hs : Region.noSelect ops = true) (hf : Region.free .any ops listed i = true) (hr : (Region.ready .any ops listed).contains i = true) (hv : Yld P n ops f S o (.bool (decide p))) (hd : Nat.blt d n = true)
    (hT : p → FH P Q S n ds ops fuel (listed.setIfInBounds i true) ((d, .bool true) :: f) w) (hF : ¬ p → FH P Q S n ds ops fuel (listed.setIfInBounds i true) ((d, .bool false) :: f) w) : FH P Q S n ds ops (fuel + 1) listed f w := by
  by_cases h : p
  · rw [decide_eq_true h] at hv; exact hTake i hi ho hs hf hr hv hd (hT h)
  · rw [decide_eq_false h] at hv; exact hTake i hi ho hs hf hr hv hd (hF h)
section
variable {P : Program} {Q : Exit → Act → World → Prop} {C : World → Prop} {n : Nat} {ops : Array Oper} {rest : List Oper} {f : Fr} {w : World} {K : Fr → Prop}
theorem wanted_un {a : Act} (ha : Has n ds f a) {j d : Nat} {b : Bool} {dst : Option Tmp} {op : Op} {ty : TypeId} {pos : String} {after : Array Edge} (hj : (ops[j]?).bind (·.dst) = some d) (hg : get f d = some undef) :
    Region.wanted ⟨dst, op, ty, pos, after, some (j, b)⟩ (yielded ops a.tmps) = false := by
  have hy : yielded ops a.tmps j = none := by unfold yielded; rw [hj]; simp only [Option.bind_some]; rw [ha.slots d _ hg]; rfl
  unfold Region.wanted; simp only [hy]; rfl
/-- the test itself was not wanted -/
theorem gU {d0 : Nat} {op : Op} {ty : TypeId} {pos : String} {after : Array Edge} {j d : Nat} {b : Bool} (hj : (ops[j]?).bind (·.dst) = some d) (hg : get f d = some undef) (hd : Nat.blt d0 n = true)
    (h : FL P Q n ds ops rest ((d0, undef) :: f) w) : FL P Q n ds ops (⟨some d0, op, ty, pos, after, some (j, b)⟩ :: rest) f w := fun a ha => by
  have h := h _ (ha.put hd undef)
  unfold wpList
  rw [if_neg (by rw [wanted_un ha hj hg]; simp)]
  exact h
end
end Fw
end Go.Proofs.Ytgpdodhegacndaa
