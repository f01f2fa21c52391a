/- A walk in steps of its own: a frame is a short list of slots with their values; each operation is one law. No program is named here. -/
import Derived.Test.YtgpdodhegacndaaMem
import Derived.Orders
namespace Go.Proofs.Ytgpdodhegacndaa
set_option linter.unusedSimpArgs false
set_option linter.unusedVariables false
open Go.RowKit
namespace Fw
variable {ds : List Deferred}

abbrev Fr := List (Nat × Value)
def get : List (Nat × Value) → Nat → Option Value
  | [], _ => none
  | (k, v) :: f, j => bif Nat.beq k j then some v else get f j
/-- an act of n slots, with nothing deferred, in which the slots of f hold what f says -/
structure Has (n : Nat) (ds : List Deferred) (f : Fr) (a : Act) : Prop where
  size : a.tmps.size = n
  defers : a.defers = ds
  slots : ∀ k v, get f k = some v → a.tmps[k]? = some v
def ev (f : Fr) : Operand → Option Value
  | .tmp t => get f t
  | .const v => some v
  | .global g => some (.pointer (some ⟨g, 0, none⟩))
  | .func g => some (.func (.func g) #[] #[])
theorem get_cons {k j : Nat} {v : Value} {f : Fr} : get ((k, v) :: f) j = if k = j then some v else get f j := by
  show (bif Nat.beq k j then some v else get f j) = _
  by_cases h : k = j
  · subst h; simp
  · rw [if_neg h, show Nat.beq k j = false from by
      cases e : Nat.beq k j
      · rfl
      · exact absurd (Nat.eq_of_beq_eq_true e) h]; rfl
section
variable {n : Nat} {f f' : Fr} {a : Act}
theorem Has.eval (h : Has n ds f a) {x : Operand} {v : Value} (hx : ev f x = some v) : a.eval x = v := by
  cases x with
  | tmp t => simp only [ev] at hx; simp [Act.eval, Array.getD_eq_getD_getElem?, h.slots t v hx]
  | const v => simp only [ev] at hx; injection hx
  | global g => simp only [ev] at hx; injection hx
  | func g => simp only [ev] at hx; injection hx
theorem Has.put (h : Has n ds f a) {d : Nat} (hd : Nat.blt d n = true) (v : Value) : Has n ds ((d, v) :: f) (a.put (some d) v) := by
  have hd' : d < n := by simpa using hd
  refine ⟨by simp [Act.put, h.size], h.defers, fun k u hu => ?_⟩
  rw [get_cons] at hu
  show (a.tmps.setIfInBounds d v)[k]? = some u
  rw [Array.getElem?_setIfInBounds]
  split at hu
  · rename_i e; subst e; rw [if_pos rfl, if_pos (by rw [h.size]; exact hd')]; exact hu
  · rename_i e; rw [if_neg e]; exact h.slots k u hu
theorem Has.put0 (h : Has n ds f a) (v : Value) : Has n ds f (a.put none v) := h
theorem Has.start {args : List Value} {n : Nat} (hn : args.length ≤ n) {f : Fr} (hf : ∀ k v, get f k = some v → args[k]? = some v) :
    Has n [] f { tmps := args.toArray ++ Array.replicate (n - args.length) undef, defers := [] } := by
  refine ⟨by simp; omega, rfl, fun k v hk => ?_⟩
  have h := hf k v hk
  have hlt : k < args.length := (List.getElem?_eq_some_iff.1 h).1
  rw [Array.getElem?_append_left (by simpa using hlt)]
  simpa using h
end
/-- f' says no more than f -/
def Sub (f' f : Fr) : Prop := ∀ k v, get f' k = some v → get f k = some v
theorem Sub.nil {f : Fr} : Sub [] f := fun k v h => by cases h
theorem Sub.cons {k : Nat} {v : Value} {f' f : Fr} (h : get f k = some v) (hs : Sub f' f) : Sub ((k, v) :: f') f := fun j u hu => by
  rw [get_cons] at hu
  split at hu
  · rename_i e; subst e; rw [h]; exact hu
  · exact hs j u hu
theorem Sub.refl (f : Fr) : Sub f f := fun _ _ h => h
theorem Has.sub {n : Nat} {f f' : Fr} {a : Act} (h : Has n ds f a) (hs : Sub f' f) : Has n ds f' a := ⟨h.size, h.defers, fun k v hk => h.slots k v (hs k v hk)⟩

/-- the code walks from every act with the frame f -/
def FC (P : Program) (Q : Exit → Act → World → Prop) (n : Nat) (ds : List Deferred) (c : Code) (f : Fr) (w : World) : Prop := ∀ a, Has n ds f a → c.wp P Q a w
def FL (P : Program) (Q : Exit → Act → World → Prop) (n : Nat) (ds : List Deferred) (ops : Array Oper) (l : List Oper) (f : Fr) (w : World) : Prop := ∀ a, Has n ds f a → wpList P ops Q l a w
def FK (n : Nat) (ds : List Deferred) (K : Act → World → Prop) (f : Fr) (w : World) : Prop := ∀ a, Has n ds f a → K a w
/-- what a frame brings to an exit -/
def FX (n : Nat) (ds : List Deferred) (Q : Exit → Act → World → Prop) (e : Exit) (f : Fr) (w : World) : Prop := ∀ a, Has n ds f a → Q e a w

section
variable {P : Program} {Q : Exit → Act → World → Prop} {n : Nat} {f f' : Fr} {w w' : World} {x y : Code}
theorem FC.sub (hs : Sub f' f) (h : FC P Q n ds x f' w) : FC P Q n ds x f w := fun a ha => h a (ha.sub hs)
theorem FK.sub {K : Act → World → Prop} (hs : Sub f' f) (h : FK n ds K f' w) : FK n ds K f w := fun a ha => h a (ha.sub hs)
theorem FX.sub {e : Exit} (hs : Sub f' f) (h : FX n ds Q e f' w) : FX n ds Q e f w := fun a ha => h a (ha.sub hs)
/-- two pieces: what follows is laid behind a name -/
theorem seq (h : ∀ K : Act → World → Prop, (∀ {ds : List Deferred} f w, FC P Q n ds y f w → FX n ds (Exit.then K Q) .normal f w) → FC P (Exit.then K Q) n ds x f w) : FC P Q n ds (.seq x y) f w := fun a ha =>
  wp_seq (h (y.wp P Q) (fun f w hy a ha => hy a ha) a ha)
theorem region {id : Nat} {l : List Oper} (h : FL P Q n ds l.toArray l f w) : FC P Q n ds (.region id l.toArray false) f w := fun a ha => wp_region_lit (h a ha)
theorem skip (h : FX n ds Q .normal f w) : FC P Q n ds .skip f w := fun a ha => wp_skip (h a ha)
theorem ret (h : FX n ds Q .ret f w) : FC P Q n ds .ret f w := fun a ha => wp_ret (h a ha)
theorem exit {id : Nat} (h : FX n ds Q (.exit id) f w) : FC P Q n ds (.exit id) f w := fun a ha => wp_exit (h a ha)
theorem condT {c : Operand} (hc : ev f c = some (.bool true)) (h : FC P Q n ds x f w) : FC P Q n ds (.cond c x y) f w := fun a ha => wp_cond_true (ha.eval hc) (h a ha)
theorem condF {c : Operand} (hc : ev f c = some (.bool false)) (h : FC P Q n ds y f w) : FC P Q n ds (.cond c x y) f w := fun a ha => wp_cond_false (ha.eval hc) (h a ha)
theorem cond2 {c : Operand} {b : Bool} (hc : ev f c = some (.bool b)) (hT : b = true → FC P Q n ds x f w) (hF : b = false → FC P Q n ds y f w) : FC P Q n ds (.cond c x y) f w := by
  cases b
  · exact condF hc (hF rfl)
  · exact condT hc (hT rfl)
theorem block {id : Nat} (h : FC P (Exit.inBlock id Q) n ds x f w) : FC P Q n ds (.block id x) f w := fun a ha => wp_block (h a ha)
theorem ex_min {p : Nat → Prop} (h : ∃ m, p m) : ∃ m, p m ∧ ∀ k, p k → m ≤ k := by
  obtain ⟨m, hm⟩ := h
  induction m using Nat.strongRecOn with
  | _ m ih =>
    by_cases hk : ∃ k, k < m ∧ p k
    · obtain ⟨k, hk, hp⟩ := hk; exact ih k hk hp
    · exact ⟨m, hm, fun k hp => by
        rcases Nat.lt_or_ge k m with h | h
        · exact absurd ⟨k, h, hp⟩ hk
        · exact h⟩
open Classical in
noncomputable def least (p : Nat → Prop) : Nat := if h : ∃ m, p m then (ex_min h).choose else 0
theorem least_spec {p : Nat → Prop} {m : Nat} (h : p m) : p (least p) ∧ least p ≤ m := by
  have hh : ∃ m, p m := ⟨m, h⟩
  unfold least
  rw [dif_pos hh]
  exact ⟨(ex_min hh).choose_spec.1, (ex_min hh).choose_spec.2 m h⟩
/-- a loop: R m says what holds at the head while m is left to do -/
theorem loop (R : Nat → Fr → World → Prop) (h0 : ∃ m f', R m f' w ∧ Sub f' f)
    (round : ∀ m f w, R m f w → FC P (Exit.then (fun a' w' => ∃ m' f', m' < m ∧ R m' f' w' ∧ Has n ds f' a') Q) n ds x f w) : FC P Q n ds (.loop x) f w := by
  intro a ha
  obtain ⟨m, f', hR, hs⟩ := h0
  refine wp_loop (fun a w => ∃ m f', R m f' w ∧ Has n ds f' a) (fun a w => least fun m => ∃ f', R m f' w ∧ Has n ds f' a) ⟨m, f', hR, ha.sub hs⟩ ?_
  rintro a w ⟨m0, f0, hR0, ha0⟩
  obtain ⟨⟨f1, hR1, ha1⟩, -⟩ := least_spec (p := fun m => ∃ f', R m f' w ∧ Has n ds f' a) ⟨f0, hR0, ha0⟩
  refine Code.wp_mono ?_ (round _ f1 w hR1 a ha1)
  intro e a' w' h
  cases e with
  | normal =>
    obtain ⟨m', f', hlt, hR', ha'⟩ := h
    exact ⟨⟨m', f', hR', ha'⟩, Nat.lt_of_le_of_lt (least_spec (p := fun m => ∃ f', R m f' w' ∧ Has n ds f' a') ⟨f', hR', ha'⟩).2 hlt⟩
  | _ => exact h
theorem roundEnd {R : Nat → Fr → World → Prop} {m : Nat} (m' : Nat) (f' : Fr) (hlt : m' < m) (hR : R m' f' w) (hs : Sub f' f) : FX n ds (Exit.then (fun a' w' => ∃ m' f', m' < m ∧ R m' f' w' ∧ Has n ds f' a') Q) .normal f w :=
  fun a ha => ⟨m', f', hlt, hR, ha.sub hs⟩
end
/-! ### exits -/
section
variable {P : Program} {Q : Exit → Act → World → Prop} {n : Nat} {f : Fr} {w : World}
theorem X_then {K : Act → World → Prop} {e : Exit} (he : e ≠ .normal) (h : FX n ds Q e f w) : FX n ds (Exit.then K Q) e f w := fun a ha => by cases e <;> first | exact absurd rfl he | exact h a ha
theorem X_ret {K : Act → World → Prop} (h : FX n ds Q .ret f w) : FX n ds (Exit.then K Q) .ret f w := h
theorem X_exit {K : Act → World → Prop} {id : Nat} (h : FX n ds Q (.exit id) f w) : FX n ds (Exit.then K Q) (.exit id) f w := h
theorem X_block {id : Nat} (h : FX n ds Q .normal f w) : FX n ds (Exit.inBlock id Q) (.exit id) f w := fun a ha => by show (if id = id then _ else _); rw [if_pos rfl]; exact h a ha
theorem X_blockO {id id' : Nat} (hne : (id' == id) = false) (h : FX n ds Q (.exit id') f w) : FX n ds (Exit.inBlock id Q) (.exit id') f w := fun a ha => by
  show (if id' = id then _ else _); rw [if_neg (by simpa using hne)]; exact h a ha
theorem X_blockN {id : Nat} (h : FX n ds Q .normal f w) : FX n ds (Exit.inBlock id Q) .normal f w := h
theorem X_blockR {id : Nat} (h : FX n ds Q .ret f w) : FX n ds (Exit.inBlock id Q) .ret f w := h
end

/-! ### regions -/
section
variable {P : Program} {Q : Exit → Act → World → Prop} {C : World → Prop} {K : Act → Prop} {n : Nat} {ops : Array Oper} {rest : List Oper} {o : Oper} {f : Fr} {w : World}
theorem nil (h : FX n ds Q .normal f w) : FL P Q n ds ops [] f w := h
/-- a region that draws its order: its operations leave what was there, and yield what they yield in any such world -/
def FQ (P : Program) (C : World → Prop) (n : Nat) (ds : List Deferred) (ops : Array Oper) (K : Act → Prop) (l : List Oper) (f : Fr) : Prop := ∀ a, Has n ds f a → wpQuiet P ops C K l a
theorem regionQ {id : Nat} {l : List Oper} (hm : P.follows .mixedOrders = true) (hB : Region.lexB .any l.toArray = true)
    (h : FQ P (Below w.heap.size w) n ds l.toArray (fun a' => ∀ w', Below w.heap.size w w' → Q .normal a' w') l f) : FC P Q n ds (.region id l.toArray true) f w := fun a ha =>
  wp_region_quiet hm hB ⟨rfl, rfl, rfl, Nat.le_refl _, fun _ _ => rfl⟩ (h a ha)
theorem nilQ {C : World → Prop} (h : ∀ w', C w' → FX n ds Q .normal f w') : FQ P C n ds ops (fun a' => ∀ w', C w' → Q .normal a' w') [] f := fun a ha w' hw => h w' hw a ha
/-- the guard says yes, or no -/
theorem yielded_has {a : Act} (ha : Has n ds f a) {j d : Nat} {b : Bool} (hj : (ops[j]?).bind (·.dst) = some d) (hg : get f d = some (.bool b)) : yielded ops a.tmps j = some b := by
  unfold yielded; rw [hj]; simp only [Option.bind_some]; rw [ha.slots d _ hg]
theorem wanted_yes {a : Act} (ha : Has n ds f a) {j d : Nat} {b : Bool} {dst : Option Tmp} {op : Op} {ty : TypeId} {pos : String} {after : Array Edge} (hj : (ops[j]?).bind (·.dst) = some d) (hg : get f d = some (.bool b)) :
    Region.wanted ⟨dst, op, ty, pos, after, some (j, b)⟩ (yielded ops a.tmps) = true := by
  unfold Region.wanted; simp only [yielded_has ha hj hg]; simp
theorem wanted_no {a : Act} (ha : Has n ds f a) {j d : Nat} {b b' : Bool} {dst : Option Tmp} {op : Op} {ty : TypeId} {pos : String} {after : Array Edge} (hj : (ops[j]?).bind (·.dst) = some d) (hg : get f d = some (.bool b')) (hne : (b' == b) = false) :
    Region.wanted ⟨dst, op, ty, pos, after, some (j, b)⟩ (yielded ops a.tmps) = false := by
  unfold Region.wanted; simp only [yielded_has ha hj hg]; simpa using hne
theorem gT {dst : Option Tmp} {op : Op} {ty : TypeId} {pos : String} {after : Array Edge} {j d : Nat} {b : Bool} (hj : (ops[j]?).bind (·.dst) = some d) (hg : get f d = some (.bool b))
    (h : FL P Q n ds ops (⟨dst, op, ty, pos, after, none⟩ :: rest) f w) : FL P Q n ds ops (⟨dst, op, ty, pos, after, some (j, b)⟩ :: rest) f w := fun a ha => by
  have h := h a ha
  unfold wpList at h ⊢
  rw [if_pos (wanted_yes ha hj hg)]
  rw [if_pos (by rfl)] at h
  exact h
theorem gF {d0 : Nat} {op : Op} {ty : TypeId} {pos : String} {after : Array Edge} {j d : Nat} {b b' : Bool} (hj : (ops[j]?).bind (·.dst) = some d) (hg : get f d = some (.bool b')) (hne : (b' == b) = false) (hd : Nat.blt d0 n = true)
    (h : FL P Q n ds ops rest ((d0, undef) :: f) w) : FL P Q n ds ops (⟨some d0, op, ty, pos, after, some (j, b)⟩ :: rest) f w := fun a ha => by
  have h := h _ (ha.put hd undef)
  unfold wpList
  rw [if_neg (by rw [wanted_no ha hj hg hne]; simp)]
  exact h
theorem gF0 {op : Op} {ty : TypeId} {pos : String} {after : Array Edge} {j d : Nat} {b b' : Bool} (hj : (ops[j]?).bind (·.dst) = some d) (hg : get f d = some (.bool b')) (hne : (b' == b) = false)
    (h : FL P Q n ds ops rest f w) : FL P Q n ds ops (⟨none, op, ty, pos, after, some (j, b)⟩ :: rest) f w := fun a ha => by
  have h := h _ ha
  unfold wpList
  rw [if_neg (by rw [wanted_no ha hj hg hne]; simp)]
  exact h
theorem gTQ {dst : Option Tmp} {op : Op} {ty : TypeId} {pos : String} {after : Array Edge} {j d : Nat} {b : Bool} (hj : (ops[j]?).bind (·.dst) = some d) (hg : get f d = some (.bool b))
    (h : FQ P C n ds ops K (⟨dst, op, ty, pos, after, none⟩ :: rest) f) : FQ P C n ds ops K (⟨dst, op, ty, pos, after, some (j, b)⟩ :: rest) f := fun a ha => by
  have h := h a ha
  unfold wpQuiet at h ⊢
  rw [if_pos (wanted_yes ha hj hg)]
  rw [if_pos (by rfl)] at h
  exact h
theorem gFQ {d0 : Nat} {op : Op} {ty : TypeId} {pos : String} {after : Array Edge} {j d : Nat} {b b' : Bool} (hj : (ops[j]?).bind (·.dst) = some d) (hg : get f d = some (.bool b')) (hne : (b' == b) = false) (hd : Nat.blt d0 n = true)
    (h : FQ P C n ds ops K rest ((d0, undef) :: f)) : FQ P C n ds ops K (⟨some d0, op, ty, pos, after, some (j, b)⟩ :: rest) f := fun a ha => by
  have h := h _ (ha.put hd undef)
  unfold wpQuiet
  rw [if_neg (by rw [wanted_no ha hj hg hne]; simp)]
  exact h

/-- in every world of the class the operation yields v, and leaves the world -/
def Val (P : Program) (n : Nat) (f : Fr) (C : World → Prop) (op : Op) (ty : TypeId) (v : Value) : Prop :=
  ∀ {ds : List Deferred} dst pos after g a w, Has n ds f a → C w → (execOp a.eval ⟨dst, op, ty, pos, after, g⟩).run P w = .ok (.value v) w
theorem s {d : Nat} {op : Op} {ty : TypeId} {pos : String} {after : Array Edge} {v : Value} (hv : Val P n f (· = w) op ty v) (hd : Nat.blt d n = true)
    (h : FL P Q n ds ops rest ((d, v) :: f) w) : FL P Q n ds ops (⟨some d, op, ty, pos, after, none⟩ :: rest) f w := fun a ha => by
  have h := h _ (ha.put hd v)
  refine wpList_plain rfl fun K hK => ?_
  unfold Oper.wp
  rw [hv (some d) pos after none a w ha rfl]
  exact hK _ _ h
theorem q {d : Nat} {op : Op} {ty : TypeId} {pos : String} {after : Array Edge} {v : Value} (hv : Val P n f C op ty v) (hd : Nat.blt d n = true)
    (h : FQ P C n ds ops K rest ((d, v) :: f)) : FQ P C n ds ops K (⟨some d, op, ty, pos, after, none⟩ :: rest) f := fun a ha => by
  have h := h _ (ha.put hd v)
  unfold wpQuiet
  rw [if_pos (by rfl)]
  refine ⟨v, fun w hw => ?_, h⟩
  unfold Oper.quietAt
  rw [hv (some d) pos after none a w ha hw]
  exact ⟨rfl, rfl⟩
/-- a test that stands open: both ways -/
theorem s2 {d : Nat} {op : Op} {ty : TypeId} {pos : String} {after : Array Edge} {p : Prop} [Decidable p] (hv : Val P n f (· = w) op ty (.bool (decide p))) (hd : Nat.blt d n = true)
    (hT : p → FL P Q n ds ops rest ((d, .bool true) :: f) w) (hF : ¬ p → FL P Q n ds ops rest ((d, .bool false) :: f) w) : FL P Q n ds ops (⟨some d, op, ty, pos, after, none⟩ :: rest) f w := by
  by_cases h : p
  · rw [decide_eq_true h] at hv; exact s hv hd (hT h)
  · rw [decide_eq_false h] at hv; exact s hv hd (hF h)
theorem q2 {d : Nat} {op : Op} {ty : TypeId} {pos : String} {after : Array Edge} {p : Prop} [Decidable p] (hv : Val P n f C op ty (.bool (decide p))) (hd : Nat.blt d n = true)
    (hT : p → FQ P C n ds ops K rest ((d, .bool true) :: f)) (hF : ¬ p → FQ P C n ds ops K rest ((d, .bool false) :: f)) : FQ P C n ds ops K (⟨some d, op, ty, pos, after, none⟩ :: rest) f := by
  by_cases h : p
  · rw [decide_eq_true h] at hv; exact q hv hd (hT h)
  · rw [decide_eq_false h] at hv; exact q hv hd (hF h)
theorem Val.T {op : Op} {ty : TypeId} {p : Prop} [Decidable p] (hv : Val P n f C op ty (.bool (decide p))) (h : p) : Val P n f C op ty (.bool true) := by rw [decide_eq_true h] at hv; exact hv
theorem Val.F {op : Op} {ty : TypeId} {p : Prop} [Decidable p] (hv : Val P n f C op ty (.bool (decide p))) (h : ¬ p) : Val P n f C op ty (.bool false) := by rw [decide_eq_false h] at hv; exact hv
/-- an operation that turns the world -/
theorem sw {d : Nat} {op : Op} {ty : TypeId} {pos : String} {after : Array Edge} {v : Value} {w' : World} (hv : ∀ a, Has n ds f a → (execOp a.eval ⟨some d, op, ty, pos, after, none⟩).run P w = .ok (.value v) w') (hd : Nat.blt d n = true)
    (h : FL P Q n ds ops rest ((d, v) :: f) w') : FL P Q n ds ops (⟨some d, op, ty, pos, after, none⟩ :: rest) f w := fun a ha => by
  have h := h _ (ha.put hd v)
  refine wpList_plain rfl fun K hK => ?_
  unfold Oper.wp
  rw [hv a ha]
  exact hK _ _ h
theorem sw0 {op : Op} {ty : TypeId} {pos : String} {after : Array Edge} {w' : World} (hv : ∀ a, Has n ds f a → (execOp a.eval ⟨none, op, ty, pos, after, none⟩).run P w = .ok .skip w')
    (h : FL P Q n ds ops rest f w') : FL P Q n ds ops (⟨none, op, ty, pos, after, none⟩ :: rest) f w := fun a ha => by
  have h := h _ ha
  refine wpList_plain rfl fun K hK => ?_
  unfold Oper.wp
  rw [hv a ha]
  exact hK _ _ h
/-! ### calls -/
def CallT (P : Program) (g : FuncId) : Prop := ∀ args w, (callFunc g args).run P w = .ok (.enter g args) w
theorem CallT.of {g : FuncId} {fn : Func} (h : P.funcs[g]? = some fn) (h1 : (fn.name == "runtime.NumGoroutine") = false) (h2 : fn.body.isNone = false) : CallT P g := fun args w => by
  unfold callFunc
  have h1' : ¬ fn.name = "runtime.NumGoroutine" := by simpa using h1
  have h2' : ¬ fn.body = none := by intro h; rw [h] at h2; cases h2
  simp [h, h1', h2']
def evs (f : Fr) : List Operand → Option (List Value)
  | [] => some []
  | x :: l => match ev f x, evs f l with
    | some v, some vs => some (v :: vs)
    | _, _ => none
theorem Has.evals {a : Act} (ha : Has n ds f a) : ∀ {xs : List Operand} {vs : List Value}, evs f xs = some vs → xs.map a.eval = vs
  | [], vs, h => by simp only [evs] at h; exact Option.some.inj h
  | x :: l, vs, h => by
    simp only [evs] at h
    split at h
    · rename_i v us h1 h2
      injection h with h; subst h
      rw [List.map_cons, ha.eval h1, ha.evals h2]
    · cases h
theorem call {d : Nat} {g : FuncId} {xs : List Operand} {ats : Array TypeId} {ty : TypeId} {pos : String} {after : Array Edge} {vs : List Value} {R : Ending → World → Prop} (hg : CallT P g) (hx : evs f xs = some vs) (hd : Nat.blt d n = true)
    (hc : Calls P g vs.toArray w R) (h : ∀ e w', R e w' → ∃ v, e = .returned v ∧ FL P Q n ds ops rest ((d, v) :: f) w') :
    FL P Q n ds ops (⟨some d, .call ⟨.value (.func g), xs.toArray, ats⟩, ty, pos, after, none⟩ :: rest) f w := fun a ha => by
  refine wpList_plain rfl fun K hK => ?_
  unfold Oper.wp
  have e1 : (execOp a.eval ⟨some d, .call ⟨.value (.func g), xs.toArray, ats⟩, ty, pos, after, none⟩).run P w = .ok (.enter g vs.toArray) w := by
    have : execOp a.eval ⟨some d, .call ⟨.value (.func g), xs.toArray, ats⟩, ty, pos, after, none⟩ = callFunc g (#[] ++ xs.toArray.map a.eval ++ #[]) := rfl
    rw [this, hg, ← ha.evals hx]; simp only [List.map_toArray, Array.append_empty, Array.empty_append]
  rw [e1]
  refine hc.mono fun e w' hR => ?_
  obtain ⟨v, rfl, hh⟩ := h e w' hR
  exact hK _ _ (hh _ (ha.put hd v))
theorem call0 {g : FuncId} {xs : List Operand} {ats : Array TypeId} {ty : TypeId} {pos : String} {after : Array Edge} {vs : List Value} {R : Ending → World → Prop} (hg : CallT P g) (hx : evs f xs = some vs)
    (hc : Calls P g vs.toArray w R) (h : ∀ e w', R e w' → ∃ v, e = .returned v ∧ FL P Q n ds ops rest f w') :
    FL P Q n ds ops (⟨none, .call ⟨.value (.func g), xs.toArray, ats⟩, ty, pos, after, none⟩ :: rest) f w := fun a ha => by
  refine wpList_plain rfl fun K hK => ?_
  unfold Oper.wp
  have e1 : (execOp a.eval ⟨none, .call ⟨.value (.func g), xs.toArray, ats⟩, ty, pos, after, none⟩).run P w = .ok (.enter g vs.toArray) w := by
    have : execOp a.eval ⟨none, .call ⟨.value (.func g), xs.toArray, ats⟩, ty, pos, after, none⟩ = callFunc g (#[] ++ xs.toArray.map a.eval ++ #[]) := rfl
    rw [this, hg, ← ha.evals hx]; simp only [List.map_toArray, Array.append_empty, Array.empty_append]
  rw [e1]
  refine hc.mono fun e w' hR => ?_
  obtain ⟨v, rfl, hh⟩ := h e w' hR
  exact hK _ _ (hh _ ha)
/-- a call in a region that draws its order -/
theorem callQ {d : Nat} {g : FuncId} {xs : List Operand} {ats : Array TypeId} {ty : TypeId} {pos : String} {after : Array Edge} {vs : List Value} {v : Value} {R : World → Ending → World → Prop} (hg : CallT P g) (hx : evs f xs = some vs) (hd : Nat.blt d n = true)
    (hc : ∀ w1, Below w.heap.size w w1 → Calls P g vs.toArray w1 (R w1)) (hr : ∀ w1 e w2, R w1 e w2 → e = .returned v ∧ Below w1.heap.size w1 w2)
    (h : FQ P (Below w.heap.size w) n ds ops K rest ((d, v) :: f)) :
    FQ P (Below w.heap.size w) n ds ops K (⟨some d, .call ⟨.value (.func g), xs.toArray, ats⟩, ty, pos, after, none⟩ :: rest) f := fun a ha => by
  have h := h _ (ha.put hd v)
  unfold wpQuiet
  rw [if_pos (by rfl)]
  refine ⟨v, fun w1 hw => ?_, h⟩
  unfold Oper.quietAt
  have e1 : (execOp a.eval ⟨some d, .call ⟨.value (.func g), xs.toArray, ats⟩, ty, pos, after, none⟩).run P w1 = .ok (.enter g vs.toArray) w1 := by
    have : execOp a.eval ⟨some d, .call ⟨.value (.func g), xs.toArray, ats⟩, ty, pos, after, none⟩ = callFunc g (#[] ++ xs.toArray.map a.eval ++ #[]) := rfl
    rw [this, hg, ← ha.evals hx]; simp only [List.map_toArray, Array.append_empty, Array.empty_append]
  rw [e1]
  refine ⟨rfl, (hc w1 hw).mono fun e w2 hR => ?_⟩
  obtain ⟨he, hb⟩ := hr w1 e w2 hR
  exact ⟨he, hw.trans (hb.mono hw.size)⟩
end
end Fw
end Go.Proofs.Ytgpdodhegacndaa
