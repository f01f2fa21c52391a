/- Maps with integer keys, in the engine's words. No program is named here. -/
import Derived.Test.YtgpdodhegacndaaOw
import Derived.Maps.RangeWalk
import Derived.Maps.Views
import Derived.Lib.SlKeysI
import Derived.Carry
namespace Go.Proofs.Ytgpdodhegacndaa
set_option linter.unusedSimpArgs false
set_option linter.unusedVariables false
open Go.RowKit
namespace Mp
open Go.Maps (Keyed)
/-- a value is read as itself -/
def RV (v : Value) : Option (DataW Value × List MemPlace) := some (.held v, [])
/-- the datum D says at keys of kind q what M says -/
def Says (q : IntKind) (D : DataW Value) (M : Int → Option Value) : Prop :=
  ∀ x, (Lit.int q x).wf = true → (∀ v, M x = some v → ∀ z, D.atKey (.int q x) z = .held v) ∧ (M x = none → ∀ z, D.atKey (.int q x) z = z)
/-- block b is a map of at most n entries; M says which -/
def MapI (P : Program) (w : World) (k : TypeId) (q : IntKind) (b n : Nat) (M : Int → Option Value) : Prop := ∃ D, w.ownsMap P k RV b n D ∧ Says q D M
/-- a range over the map is under way at block r; what is to come -/
def MapR (P : Program) (w : World) (k : TypeId) (q : IntKind) (b r n : Nat) (M : Int → Option Value) (todo : Int → Bool) (cnt : Nat) : Prop :=
  ∃ D left, w.ranges P k RV b r n D left cnt ∧ Says q D M ∧ ∀ x, (Lit.int q x).wf = true → left (.int q x) = todo x
theorem wf64 {x : Int} (h : -9223372036854775808 ≤ x ∧ x ≤ 9223372036854775807) : (Lit.int .i64 x).wf = true := by
  have h1 : IntKind.i64.min = -9223372036854775808 := by decide
  have h2 : IntKind.i64.max = 9223372036854775807 := by decide
  simp only [Lit.wf, h1, h2, Bool.and_eq_true, decide_eq_true_eq]; exact h
section
variable {P : Program} {w w' : World} {k t e : TypeId} {q : IntKind} {b r n cnt : Nat} {M : Int → Option Value} {todo : Int → Bool}
theorem owns_chg {D : DataW Value} {S : Nat → Prop} (h : w.ownsMap P k RV b n D) (hc : Chg S w w') (hb : ¬ S b) : w'.ownsMap P k RV b n D := by
  have hl := h.lt
  obtain ⟨es, clock, h1, F, hs, hD⟩ := h
  exact ⟨es, clock, (hc.block b hl hb).trans h1, F, hs, hD⟩
theorem MapI.chg {S : Nat → Prop} (h : MapI P w k q b n M) (hc : Chg S w w') (hb : ¬ S b) : MapI P w' k q b n M := by
  obtain ⟨D, h1, h2⟩ := h; exact ⟨D, owns_chg h1 hc hb, h2⟩
theorem MapI.low (h : MapI P w k q b n M) (hb : Below w.heap.size w w') : MapI P w' k q b n M := h.chg (Chg.of_below hb (fun _ => False)) (fun h => h)
theorem MapI.lt (h : MapI P w k q b n M) : b < w.heap.size := by obtain ⟨D, h1, h2⟩ := h; exact h1.lt
theorem MapI.mono {n' : Nat} (h : MapI P w k q b n M) (hn : n ≤ n') : MapI P w k q b n' M := by obtain ⟨D, h1, h2⟩ := h; exact ⟨D, h1.mono hn, h2⟩
theorem MapI.obj (h : MapI P w k q b n M) : ∃ es clock, w.heap[b]? = some (.map es clock) := by obtain ⟨D, ⟨es, clock, h1, _⟩, h2⟩ := h; exact ⟨es, clock, h1⟩
/-- a block of cells is no map -/
theorem MapI.ne_blk {g ty : Nat} {cs : Array Value} (h : MapI P w k q b n M) (hb : Blk w g ty cs) : b ≠ g := fun e_ => by
  obtain ⟨es, clock, h1⟩ := h.obj
  subst e_; unfold Blk at hb; rw [hb] at h1; cases h1
theorem MapI.ne_own {base ee size m : Nat} {A : Option Addr} {l c : Nat} {xs : List Value} (h : MapI P w k q b n M) (ho : w.ownsRow base ee size (.slice A l c) m xs) : ¬ some b = (Value.slice A l c).ownBlock := fun e_ => by
  obtain ⟨es, clock, h1⟩ := h.obj
  rcases ho.2 with ⟨h2, _⟩ | ⟨g', cap, cur, h2, _, hh, _⟩
  · injection h2 with a; subst a; cases e_
  · injection h2 with a; subst a
    injection e_ with e_
    have e2 : b = g' := e_
    subst e2; rw [hh] at h1; cases h1
theorem MapR.mapI (h : MapR P w k q b r n M todo cnt) : MapI P w k q b n M := by
  obtain ⟨D, left, h1, h2, h3⟩ := h; exact ⟨D, h1.owns, h2⟩
theorem MapR.chg {S : Nat → Prop} (h : MapR P w k q b r n M todo cnt) (hc : Chg S w w') (hb : ¬ S b) (hr : ¬ S r) : MapR P w' k q b r n M todo cnt := by
  obtain ⟨D, left, h1, h2, h3⟩ := h
  have l1 := h1.owns.lt
  have l2 := h1.lt
  obtain ⟨es, clock, since, seen, c0, hb', F, hs, hD, hr', x1, x2, x3, x4, x5⟩ := h1
  exact ⟨D, left, ⟨es, clock, since, seen, c0, (hc.block b l1 hb).trans hb', F, hs, hD, (hc.block r l2 hr).trans hr', x1, x2, x3, x4, x5⟩, h2, h3⟩
theorem MapR.low (h : MapR P w k q b r n M todo cnt) (hb : Below w.heap.size w w') : MapR P w' k q b r n M todo cnt := h.chg (Chg.of_below hb (fun _ => False)) (fun h => h) (fun h => h)
theorem MapR.lt (h : MapR P w k q b r n M todo cnt) : r < w.heap.size := by obtain ⟨D, left, h1, h2, h3⟩ := h; exact h1.lt
theorem MapR.ne_blk {g ty : Nat} {cs : Array Value} (h : MapR P w k q b r n M todo cnt) (hb : Blk w g ty cs) : r ≠ g := fun e_ => by
  obtain ⟨D, left, ⟨es, clock, since, seen, c0, hb', F, hs, hD, hr', _⟩, h2, h3⟩ := h
  subst e_; unfold Blk at hb; rw [hb] at hr'; cases hr'
theorem MapR.ne_own {base ee size m : Nat} {A : Option Addr} {l c : Nat} {xs : List Value} (h : MapR P w k q b r n M todo cnt) (ho : w.ownsRow base ee size (.slice A l c) m xs) : ¬ some r = (Value.slice A l c).ownBlock := fun e_ => by
  obtain ⟨D, left, ⟨es, clock, since, seen, c0, hb', F, hs, hD, hr', _⟩, h2, h3⟩ := h
  rcases ho.2 with ⟨h4, _⟩ | ⟨g', cap, cur, h4, _, hh, _⟩
  · injection h4 with a; subst a; cases e_
  · injection h4 with a; subst a
    injection e_ with e_
    have e2 : r = g' := e_
    subst e2; rw [hh] at hr'; cases hr'
/-- make(map[K]V) -/
theorem made (w : World) : MapI P (w.alloc (.map #[] 0)) k q w.heap.size 0 (fun _ => none) := ⟨_, World.ownsMap_made w P k RV, fun x _ => ⟨fun v h => (by cases h), fun _ z => rfl⟩⟩
/-- m[x] -/
theorem MapI.look (h : MapI P w k q b n M) (hk : P.underlying k = some (.int q)) (ht : P.underlying t = some (.map k e)) {z : Value} (hz : (zeroValue e).run P w = .ok z w) {x : Int} (hx : (Lit.int q x).wf = true) :
    (Instr.lookup t (.map (some b)) (.int q x) false).run P w = .ok ((M x).getD z) w := by
  obtain ⟨D, h1, h2⟩ := h
  obtain ⟨v, ps, h3, h4⟩ := h1.lookup (Maps.int_keyed hk) ht hz (zd := .held z) (zp := []) rfl (Maps.keyOf_int_mk hk hx)
  rw [h3]
  have h5 : DataW.held v = D.atKey (.int q x) (.held z) := by injection h4 with h4; injection h4
  cases hM : M x with
  | none => rw [(h2 x hx).2 hM] at h5; injection h5 with h5; rw [h5]; rfl
  | some u => rw [(h2 x hx).1 u hM] at h5; injection h5 with h5; rw [h5]; rfl
theorem lit_ne {x y : Int} (h : y ≠ x) : Lit.int q y ≠ Lit.int q x := fun e => h (by injection e)
def set (M : Int → Option Value) (x : Int) (v : Value) : Int → Option Value := fun y => if y = x then some v else M y
/-- m[x] = v -/
theorem MapI.upd (h : MapI P w k q b n M) (hk : P.underlying k = some (.int q)) (ht : P.underlying t = some (.map k e)) (hn : n < maxLen) {x : Int} (hx : (Lit.int q x).wf = true) (v : Value) :
    ∃ w', (Instr.mapUpdate t (.map (some b)) (.int q x) v).run P w = .ok () w' ∧ MapI P w' k q b (n + 1) (set M x v) ∧ Chg (· = b) w w' := by
  obtain ⟨D, h1, h2⟩ := h
  have K := Maps.int_keyed hk
  have hkey := Maps.keyOf_int_mk hk hx
  obtain ⟨w', h3, h4, h5⟩ := h1.update K ht hn (val := v) hkey rfl
  refine ⟨w', h3, ⟨_, h4, fun y hy => ?_⟩, (Chg.grown h5).mono fun k _ e => by injection e⟩
  have hI := h1.isMap
  by_cases e : y = x
  · subst e
    refine ⟨fun u hu z => ?_, fun hu => ?_⟩
    · unfold set at hu; rw [if_pos rfl] at hu; injection hu with hu; subst hu
      exact Maps.atKey_put_same hI (K.key hkey) _ _
    · unfold set at hu; rw [if_pos rfl] at hu; cases hu
  · have e2 : set M x v y = M y := if_neg e
    rw [e2]
    refine ⟨fun u hu z => ?_, fun hu z => ?_⟩
    · rw [Maps.atKey_put_other (lit_ne e)]; exact (h2 y hy).1 u hu z
    · rw [Maps.atKey_put_other (lit_ne e)]; exact (h2 y hy).2 hu z
/-- range m -/
theorem MapI.rng (h : MapI P w k q b n M) (hk : P.underlying k = some (.int q)) (ht : P.underlying t = some (.map k e)) :
    ∃ w' cnt, (Instr.range t (.map (some b))).run P w = .ok (.pointer (some ⟨w.heap.size, 0, none⟩)) w' ∧ MapR P w' k q b w.heap.size n M (fun x => (M x).isSome) cnt ∧ Below w.heap.size w w' ∧ cnt ≤ n := by
  obtain ⟨D, h1, h2⟩ := h
  have hsz := h1.size_le
  obtain ⟨w', h3, h4, h5, h6⟩ := h1.range (Maps.int_keyed hk) ht
  refine ⟨w', _, h3, ⟨D, _, h4, h2, fun x hx => ?_⟩, ⟨h5.os, h5.tape, h5.output, h5.size, fun i hi => h5.block i hi (by simp)⟩, hsz⟩
  cases hM : M x with
  | none => show _ = (M x).isSome; rw [hM]; exact Maps.has_false_of_atKey ((h2 x hx).2 hM)
  | some v => show _ = (M x).isSome; rw [hM]; exact Maps.has_true_of_atKey ((h2 x hx).1 v hM)
/-- the step -/
theorem MapR.nxt (h : MapR P w k q b r n M todo cnt) (hk : P.underlying k = some (.int q)) (ty : TypeId) :
    (cnt = 0 ∧ (∀ x, (Lit.int q x).wf = true → todo x = false) ∧ (Instr.next (.pointer (some ⟨r, 0, none⟩)) false ty).run P w = .ok (.tuple #[.bool false]) w) ∨
    ∃ x v w' cnt', (Lit.int q x).wf = true ∧ todo x = true ∧ M x = some v ∧ (Instr.next (.pointer (some ⟨r, 0, none⟩)) false ty).run P w = .ok (.tuple #[.bool true, .int q x, v]) w' ∧
      MapR P w' k q b r n M (fun y => todo y && decide (y ≠ x)) cnt' ∧ cnt' < cnt ∧ Chg (· = r) w w' ∧ (Instr.entry (.pointer (some ⟨r, 0, none⟩))).run P w' = .ok (.tuple #[.int q x, v]) w' := by
  obtain ⟨D, left, h1, h2, h3⟩ := h
  rcases h1.next (Maps.int_keyed hk) ty with ⟨h4, h5, h6⟩ | ⟨key, v, kl, y, w', cnt', h4, h5, h6, h7, h8, h9, h10, h11, h12, h13⟩
  · exact .inl ⟨h4, fun x hx => by rw [← h3 x hx]; exact h5 _, h6⟩
  · obtain ⟨x, rfl, rfl, hx⟩ := Maps.keyOf_int_inv hk h4
    have hy : y.1 = .held v := by injection h6 with h6; rw [← h6]
    have hM : M x = some v := by
      cases hM : M x with
      | none => have := (h2 x hx).2 hM .nil; rw [h7, hy] at this; cases this
      | some u => have := (h2 x hx).1 u hM .nil; rw [h7, hy] at this; injection this with this; rw [this]
    refine .inr ⟨x, v, w', cnt', hx, by rw [← h3 x hx]; exact h5, hM, h8, ⟨D, _, h9, h2, fun u hu => ?_⟩, h10, (Chg.grown h11).mono fun k _ e => by injection e, h13⟩
    show (left (.int q u) && !(Lit.int q u).sameKey (.int q x)) = _
    rw [h3 u hu]
    by_cases e : u = x
    · subst e; simp [Lit.sameKey]
    · rw [Maps.sameKey_ne (lit_ne e)]; simp [e]
end
/-! ### at the operations -/
section
open Fw
variable {P : Program} {Q : Exit → Act → World → Prop} {C : World → Prop} {n : Nat} {ops : Array Oper} {rest : List Oper} {f : Fr} {w : World} {d : Nat} {ty : TypeId} {pos : String} {after : Array Edge} {x y z : Operand}
  {k t e : TypeId} {q : IntKind} {b r m cnt : Nat} {M : Int → Option Value} {todo : Int → Bool}
theorem makeMap {ds : List Deferred} (hd : Nat.blt d n = true) (h : ∀ w' b, b = w.heap.size → MapI P w' k q b 0 (fun _ => none) → Below w.heap.size w w' → FL P Q n ds ops rest ((d, .map (some b)) :: f) w') :
    FL P Q n ds ops (⟨some d, .makeMap t none, ty, pos, after, none⟩ :: rest) f w :=
  sw (v := .map (some w.heap.size)) (w' := w.alloc (.map #[] 0)) (fun a ha => by
    have e1 : (Instr.makeMap t none).run P w = .ok (.map (some w.heap.size)) (w.alloc (.map #[] 0)) := rfl
    unfold execOp
    simp [e1, Result.andThen]) hd (h _ _ rfl (made w) (Below.alloc (Below.refl w.heap.size w) (Nat.le_refl _) _))
theorem val_look (hM : ∀ w, C w → MapI P w k q b m M) (hk : P.underlying k = some (.int q)) (ht : P.underlying t = some (.map k e)) {zv : Value} (hz : ∀ w, (zeroValue e).run P w = .ok zv w) {X : Int} (hx : ev f x = some (.map (some b))) (hy : ev f y = some (.int q X)) (hX : (Lit.int q X).wf = true) :
    Val P n f C (.lookup t x y false) ty ((M X).getD zv) := fun _ _ _ _ a w ha hC => by
  have e1 := (hM w hC).look hk ht (hz w) hX
  unfold execOp
  simp [ha.eval hx, ha.eval hy, e1, Result.andThen]
theorem mapUpdate {ds : List Deferred} {v : Value} {X : Int} (hM : MapI P w k q b m M) (hk : P.underlying k = some (.int q)) (ht : P.underlying t = some (.map k e)) (hn : m < maxLen) (hx : ev f x = some (.map (some b))) (hy : ev f y = some (.int q X)) (hz : ev f z = some v) (hX : (Lit.int q X).wf = true)
    (h : ∀ w', MapI P w' k q b (m + 1) (set M X v) → Chg (· = b) w w' → FL P Q n ds ops rest f w') : FL P Q n ds ops (⟨none, .mapUpdate t x y z, ty, pos, after, none⟩ :: rest) f w := by
  obtain ⟨w', h1, h2, h3⟩ := hM.upd hk ht hn hX v
  exact sw0 (fun a ha => by
    unfold execOp
    simp [ha.eval hx, ha.eval hy, ha.eval hz, h1, Result.andThen]) (h w' h2 h3)
theorem rangeM {ds : List Deferred} (hM : MapI P w k q b m M) (hk : P.underlying k = some (.int q)) (ht : P.underlying t = some (.map k e)) (hx : ev f x = some (.map (some b))) (hd : Nat.blt d n = true)
    (h : ∀ w' r cnt, r = w.heap.size → MapR P w' k q b r m M (fun x => (M x).isSome) cnt → Below w.heap.size w w' → cnt ≤ m → FL P Q n ds ops rest ((d, .pointer (some ⟨r, 0, none⟩)) :: f) w') :
    FL P Q n ds ops (⟨some d, .range t x, ty, pos, after, none⟩ :: rest) f w := by
  obtain ⟨w', cnt, h1, h2, h3, h4⟩ := hM.rng hk ht
  exact sw (fun a ha => by
    unfold execOp
    simp [ha.eval hx, h1, Result.andThen]) hd (h w' _ cnt rfl h2 h3 h4)
theorem nextM {ds : List Deferred} (hM : MapR P w k q b r m M todo cnt) (hk : P.underlying k = some (.int q)) (hx : ev f x = some (.pointer (some ⟨r, 0, none⟩))) (hd : Nat.blt d n = true)
    (h0 : cnt = 0 → (∀ x, (Lit.int q x).wf = true → todo x = false) → FL P Q n ds ops rest ((d, .tuple #[.bool false]) :: f) w)
    (h1 : ∀ X v w' cnt', (Lit.int q X).wf = true → todo X = true → M X = some v → MapR P w' k q b r m M (fun y => todo y && decide (y ≠ X)) cnt' → cnt' < cnt → Chg (· = r) w w' → (Instr.entry (.pointer (some ⟨r, 0, none⟩))).run P w' = .ok (.tuple #[.int q X, v]) w' → FL P Q n ds ops rest ((d, .tuple #[.bool true, .int q X, v]) :: f) w') :
    FL P Q n ds ops (⟨some d, .next x false, ty, pos, after, none⟩ :: rest) f w := by
  rcases hM.nxt hk ty with ⟨h2, h3, h4⟩ | ⟨X, v, w', cnt', h2, h3, h4, h5, h6, h7, h8, h9⟩
  · exact sw (fun a ha => by
      unfold execOp
      simp [ha.eval hx, h4, Result.andThen]) hd (h0 h2 h3)
  · exact sw (fun a ha => by
      unfold execOp
      simp [ha.eval hx, h5, Result.andThen]) hd (h1 X v w' cnt' h2 h3 h4 h6 h7 h8 h9)
theorem entryM {ds : List Deferred} {v : Value} (he : (Instr.entry (.pointer (some ⟨r, 0, none⟩))).run P w = .ok v w) (hx : ev f x = some (.pointer (some ⟨r, 0, none⟩))) (hd : Nat.blt d n = true) (h : FL P Q n ds ops rest ((d, v) :: f) w) :
    FL P Q n ds ops (⟨some d, .entry x, ty, pos, after, none⟩ :: rest) f w :=
  sw (fun a ha => by
    unfold execOp
    simp [ha.eval hx, he, Result.andThen]) hd h
end
/-! ### rows in a map -/
def sl {α : Type} (G : Int → List α) (A : Int → Option Addr) (c : Int → Nat) : Int → Option Value := fun x => if (G x).length = 0 then none else some (.slice (A x) (G x).length (c x))
/-- a map whose elements are rows of the call's own -/
structure Gr {α : Type} (P : Program) (w : World) (k : TypeId) (q : IntKind) (e : TypeId) (sz B b n : Nat) (cl : α → List Value) (G : Int → List α) (A : Int → Option Addr) (c : Int → Nat) : Prop where
  map : MapI P w k q b n (sl G A c)
  row : ∀ x, w.ownsRow B e sz (.slice (A x) (G x).length (c x)) (G x).length ((G x).flatMap cl)
  nil : ∀ x, (G x).length = 0 → A x = none ∧ c x = 0
  apart : ∀ x y i, x ≠ y → (A x).map (·.block) = some i → (A y).map (·.block) ≠ some i
def put {β : Type} (f : Int → β) (X : Int) (v : β) : Int → β := fun x => if x = X then v else f x
theorem put_same {β : Type} (f : Int → β) (X : Int) (v : β) : put f X v X = v := if_pos rfl
theorem put_ne {β : Type} (f : Int → β) {X x : Int} (v : β) (h : x ≠ X) : put f X v x = f x := if_neg h
section
variable {α : Type} {P : Program} {w w' w2 : World} {k e : TypeId} {q : IntKind} {sz B b n : Nat} {cl : α → List Value} {G : Int → List α} {A : Int → Option Addr} {c : Int → Nat}
theorem sl_getD (hn : ∀ x, (G x).length = 0 → A x = none ∧ c x = 0) (x : Int) : (sl G A c x).getD (.slice none 0 0) = .slice (A x) (G x).length (c x) := by
  unfold sl
  by_cases h : (G x).length = 0
  · rw [if_pos h, (hn x h).1, (hn x h).2, h]; rfl
  · rw [if_neg h]; rfl
theorem Gr.start (h : MapI P w k q b n (fun _ => none)) : Gr P w k q e sz B b n cl (fun _ => []) (fun _ => none) (fun _ => 0) := ⟨h, fun _ => World.ownsRow_nil _ _ _ _, fun _ _ => ⟨rfl, rfl⟩, fun _ _ _ _ h => by cases h⟩
theorem Gr.chg {S : Nat → Prop} (h : Gr P w k q e sz B b n cl G A c) (hc : Chg S w w') (hb : ¬ S b) (hA : ∀ x i, (A x).map (·.block) = some i → ¬ S i) : Gr P w' k q e sz B b n cl G A c :=
  ⟨h.map.chg hc hb, fun x => own_to (h.row x) hc (hA x), h.nil, h.apart⟩
theorem Gr.low (h : Gr P w k q e sz B b n cl G A c) (hb : Below w.heap.size w w') : Gr P w' k q e sz B b n cl G A c := h.chg (Chg.of_below hb (fun _ => False)) (fun h => h) (fun _ _ _ h => h)
/-- a block of another type turns -/
theorem Gr.box {g ty : Nat} {cs : Array Value} (h : Gr P w k q e sz B b n cl G A c) (hb : Blk w g ty cs) (hne : e ≠ ty) (hc : Chg (· = g) w w') : Gr P w' k q e sz B b n cl G A c :=
  h.chg hc (h.map.ne_blk hb) fun x i hi e_ => own_ne (h.row x) hb hne (by rw [hi, e_])
/-- blocks turn that are not the groups' -/
theorem Gr.off {S : Nat → Prop} (h : Gr P w k q e sz B b n cl G A c) (hc : Chg S w w') (hS : ∀ i, S i → i < B) (hb : B ≤ b) : Gr P w' k q e sz B b n cl G A c :=
  h.chg hc (fun h1 => by have := hS _ h1; omega) fun x i hi h1 => by
    have := hS _ h1
    have := (h.row x).lt i (by rw [ownBlock_slice]; exact hi)
    omega
theorem Gr.mono {n' : Nat} (h : Gr P w k q e sz B b n cl G A c) (hn : n ≤ n') : Gr P w k q e sz B b n' cl G A c := ⟨h.map.mono hn, h.row, h.nil, h.apart⟩
/-- an element is appended to the row at X, and the row laid back -/
theorem Gr.put_ {X : Int} {v : α} {A' : Option Addr} {c' l' : Nat} (h : Gr P w k q e sz B b n cl G A c) (hl' : l' = (G X ++ [v]).length) (hc : Chg (fun k => some k = (Value.slice (A X) (G X).length (c X)).ownBlock) w w')
    (hN : w'.ownsRow B e sz (.slice A' l' c') l' ((G X ++ [v]).flatMap cl)) (hrow : A'.map (·.block) = (Value.slice (A X) (G X).length (c X)).ownBlock ∨ A'.map (·.block) = some w.heap.size)
    (hM : MapI P w2 k q b (n + 1) (set (sl G A c) X (.slice A' l' c'))) (hc2 : Chg (· = b) w' w2) : Gr P w2 k q e sz B b (n + 1) cl (put G X (G X ++ [v])) (put A X A') (put c X c') := by
  subst hl'
  rw [ownBlock_slice] at hrow
  have hMw := h.map.chg hc (h.map.ne_own (h.row X))
  have hrow1 : ∀ x, x ≠ X → w'.ownsRow B e sz (.slice (A x) (G x).length (c x)) (G x).length ((G x).flatMap cl) := fun x hx => own_to (h.row x) hc fun i hi h1 => h.apart x X i hx hi (by rw [ownBlock_slice] at h1; exact h1.symm)
  have hlt : ∀ x i, (A x).map (·.block) = some i → i < w.heap.size := fun x i hi => ((h.row x).lt i (by rw [ownBlock_slice]; exact hi)).2
  refine ⟨?_, fun x => ?_, fun x hx => ?_, fun x y i hxy hi => ?_⟩
  · have e1 : set (sl G A c) X (.slice A' (G X ++ [v]).length c') = sl (put G X (G X ++ [v])) (put A X A') (put c X c') := by
      funext x
      unfold set sl put
      by_cases hx : x = X
      · subst hx; simp
      · simp [hx]
    rw [← e1]; exact hM
  · by_cases hx : x = X
    · subst hx
      rw [put_same, put_same, put_same]
      exact own_to hN hc2 fun i hi h1 => hMw.ne_own hN (by rw [ownBlock_slice, hi, h1])
    · rw [put_ne _ _ hx, put_ne _ _ hx, put_ne _ _ hx]
      exact own_to (hrow1 x hx) hc2 fun i hi h1 => hMw.ne_own (hrow1 x hx) (by rw [ownBlock_slice, hi, h1])
  · by_cases hx' : x = X
    · subst hx'; rw [put_same] at hx; simp at hx
    · rw [put_ne _ _ hx'] at hx ⊢; rw [put_ne _ _ hx']; exact h.nil x hx
  · by_cases hx : x = X
    · subst hx
      rw [put_same] at hi
      rw [put_ne _ _ (fun e_ => hxy e_.symm)]
      rcases hrow with h1 | h1
      · exact h.apart x y i hxy (by rw [← h1]; exact hi)
      · intro h2
        have := hlt y i h2
        rw [h1] at hi; injection hi with hi; omega
    · rw [put_ne _ _ hx] at hi
      by_cases hy : y = X
      · subst hy
        rw [put_same]
        rcases hrow with h1 | h1
        · rw [h1]; exact h.apart x y i hxy hi
        · rw [h1]; intro h2; injection h2 with h2
          have := hlt x i hi; omega
      · rw [put_ne _ _ hy]; exact h.apart x y i hxy hi
end
section
open Fw
variable {α : Type} {P : Program} {C : World → Prop} {n : Nat} {f : Fr} {ty : TypeId} {x y : Operand} {k t e : TypeId} {q : IntKind} {b m : Nat} {G : Int → List α} {A : Int → Option Addr} {c : Int → Nat}
theorem val_lookG (hM : ∀ w, C w → MapI P w k q b m (sl G A c)) (hn : ∀ x, (G x).length = 0 → A x = none ∧ c x = 0) (hk : P.underlying k = some (.int q)) (ht : P.underlying t = some (.map k e)) (hz : ∀ w, (zeroValue e).run P w = .ok (.slice none 0 0) w) {X : Int} (hx : ev f x = some (.map (some b))) (hy : ev f y = some (.int q X)) (hX : (Lit.int q X).wf = true) :
    Val P n f C (.lookup t x y false) ty (.slice (A X) (G X).length (c X)) := by
  rw [← sl_getD hn X]
  exact val_look hM hk ht hz hx hy hX
end
end Mp
end Go.Proofs.Ytgpdodhegacndaa
