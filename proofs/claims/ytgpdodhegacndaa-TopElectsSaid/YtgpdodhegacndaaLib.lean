/- Words on memory that the walks of this claim share: a slice that reads as a list. No program is named here. -/
import Derived.WalkKit
import Derived.Lib.Hide
import Derived.Deep.Draws
import Derived.Laws.OwnMore
import Derived.Below
import Derived.Maps.AppendAt
import Derived.Deep.AppendLies
import Derived.RegionTactic
import Derived.OwnWalk
import Derived.Deep.DeepFit
import Derived.Deep.DeepMust
namespace Go.Proofs.Ytgpdodhegacndaa
set_option linter.unusedSimpArgs false
set_option linter.unusedVariables false
open Go.RowKit

theorem ret_int {k : IntKind} {a b : Int} (h : a = b) : Ending.returned (.int k a) = .returned (.int k b) := by rw [h]
theorem ret_bool {a b : Bool} (h : a = b) : Ending.returned (.bool a) = .returned (.bool b) := by rw [h]

theorem below_drewN (w : World) (B n : Nat) : Below B w (w.drewN n) := ⟨rfl, rfl, rfl, Nat.le_refl _, fun _ _ => rfl⟩
/-- The slice with address A holds the cells l (one cell an element). -/
def Rd (w : World) (A : Option Addr) (l : List Value) : Prop := ∀ j v, l[j]? = some v → ∃ ad, A = some ad ∧ w.cell? (ad.add j) = some v

theorem Rd.nil (w : World) (A : Option Addr) : Rd w A [] := fun j v h => by simp at h

theorem Rd.below {w w' : World} {A : Option Addr} {l : List Value} {B : Nat} (h : Rd w A l) (hb : Below B w w') (hB : ∀ ad, A = some ad → ad.block < B) : Rd w' A l := fun j v hj => by
  obtain ⟨ad, e, hc⟩ := h j v hj
  exact ⟨ad, e, (hb.cell (p := ad.add j) (by have := hB ad e; unfold Addr.add; split <;> exact this)).trans hc⟩

theorem Rd.block {w : World} {g : Nat} {cs : Array Value} {t : TypeId} {fr : Nat × Nat} {l : List Value} (h : w.heap[g]? = some (.cells cs t fr)) (hl : ∀ (j : Nat) (v : Value), l[j]? = some v → cs[j]? = some v) : Rd w (some ⟨g, 0, none⟩) l := fun j v hj =>
  ⟨_, rfl, by unfold Addr.add; split <;> simp_all [World.cell?] <;> (have := hl _ _ hj; simp_all)⟩

theorem block_of_add (a : Addr) (n : Nat) : (a.add n).block = a.block := by unfold Addr.add; split <;> rfl
theorem add_of_add (a : Addr) (i j : Nat) : (a.add i).add j = a.add (i + j) := by
  unfold Addr.add
  by_cases hi : i = 0 <;> by_cases hj : j = 0 <;> simp [hi, hj, Nat.add_assoc]
theorem Rd.keep {w w' : World} {A : Option Addr} {l : List Value} (h : Rd w A l) (hk : ∀ p : Addr, (∃ v, w.cell? p = some v) → (∃ ad, A = some ad ∧ p.block = ad.block) → w'.cell? p = w.cell? p) : Rd w' A l := fun j v hj => by
  obtain ⟨ad, e, hc⟩ := h j v hj
  exact ⟨ad, e, (hk _ ⟨_, hc⟩ ⟨ad, e, block_of_add _ _⟩).trans hc⟩
theorem Rd.low {w w' : World} {A : Option Addr} {l : List Value} (h : Rd w A l) (hb : Below w.heap.size w w') : Rd w' A l := h.keep fun p ⟨_, hv⟩ _ => hb.cell (World.block_lt_of_cell? w p hv)
theorem Rd.drew {w : World} {A : Option Addr} {l : List Value} (h : Rd w A l) : Rd w.drew A l := h
theorem Rd.drewN {w : World} {A : Option Addr} {l : List Value} (h : Rd w A l) (n : Nat) : Rd (w.drewN n) A l := h
theorem Rd.alloc {w : World} {A : Option Addr} {l : List Value} (h : Rd w A l) (o : Obj) : Rd (w.alloc o) A l := h.keep fun p ⟨_, hv⟩ _ => World.cell?_alloc_lt w o p (World.block_lt_of_cell? w p hv)
theorem Rd.grown {w w' : World} {A : Option Addr} {l : List Value} {row : Option Nat} (h : Rd w A l) (hg : w.grownBy w' row) (hne : ∀ ad, A = some ad → some ad.block ≠ row) : Rd w' A l :=
  h.keep fun p ⟨_, hv⟩ ⟨ad, hA, hb⟩ => World.cell?_of_block (hg.block p.block (World.block_lt_of_cell? w p hv) (hb ▸ hne ad hA))
theorem Rd.of_own {w : World} {base n : Nat} {e : TypeId} {size : Nat} {A : Option Addr} {c : Nat} {xs : List Value} (h : w.ownsRow base e size (.slice A n c) n xs) : Rd w A xs := by
  intro j v hj
  have hn : 0 < n := by
    rcases Nat.eq_zero_or_pos n with h0 | h0
    · subst h0; have := h.1; simp at this; subst this; simp at hj
    · exact h0
  obtain ⟨g, cap, hv, _, hlt⟩ := h.form hn
  have hA : A = some ⟨g, 0, none⟩ := by injection hv
  subst hA
  exact ⟨_, rfl, h.cells (g := g) rfl j v hj⟩

section
variable {P : Program} (w : World)
theorem run_append_of_nil (base : Nat) (t ty e : TypeId) (i : TypeInfo) (size : Nat) (ht : P.underlying t = some (.slice e)) (hi : P.info? e = some i)
    (v : Value) (n : Nat) (xs : List Value) (hown : w.ownsRow base e size v n xs) (c : Nat) : (Builtin.append_ #[t, t] ty #[v, .slice none 0 c]).run P w = .ok v w := by
  rcases hown.2 with ⟨rfl, rfl⟩ | ⟨g, cap, cur, rfl, _, _, hnc, _⟩
  · simp [Builtin.append_, run_underlying ht, sizeOf, typeInfo, hi, Builtin.lenOf, Builtin.firstCells]
  · simp [Builtin.append_, run_underlying ht, sizeOf, typeInfo, hi, Builtin.lenOf, Builtin.firstCells, hnc, storeCells]

theorem run_append_rd (base : Nat) (t ty e : TypeId) (i : TypeInfo) (z : Value) (size bytes : Nat) (ht : P.underlying t = some (.slice e)) (hi : P.info? e = some i) (hz : i.zero = some z)
    (hsize : i.size = size) (hby : i.bytes = bytes) (hzs : z.cells.size = size) (hsz : 0 < size)
    (v : Value) (n : Nat) (xs : List Value) (hown : w.ownsRow base e size v n xs)
    (A : Option Addr) (m c : Nat) (news : List Value) (hl : news.length = m * size) (hr : Rd w A news) (h1 : ∀ u ∈ news, u.oneCell' = true)
    (h63 : n + m ≤ maxLen) (hbytes : (n + m) * bytes ≤ 140737488355328) (hbase : base ≤ w.heap.size) :
    ∃ v' w', (Builtin.append_ #[t, t] ty #[v, .slice A m c]).run P w = .ok v' w' ∧ w'.ownsRow base e size v' (n + m) (xs ++ news) ∧ w.grownBy w' v.ownBlock ∧
      (v'.ownBlock = v.ownBlock ∨ v'.ownBlock = some w.heap.size) := by
  rcases A with _ | ad
  · have hn : news = [] := by
      cases news with
      | nil => rfl
      | cons a l => obtain ⟨ad, h, _⟩ := hr 0 a rfl; cases h
    subst hn
    have hm : m = 0 := by
      rcases Nat.eq_zero_or_pos m with h0 | h0
      · exact h0
      · have := Nat.mul_pos h0 hsz; simp at hl; omega
    subst hm
    exact ⟨v, w, run_append_of_nil w base t ty e i size ht hi v n xs hown c, by simpa using hown, World.grownBy.refl w _, .inl rfl⟩
  · have hcells : ∀ (j : Nat) (u : Value), news[j]? = some u → w.cell? (ad.add j) = some u := by
      intro j u hu
      obtain ⟨ad', h, hc⟩ := hr j u hu
      injection h with h
      subst h
      exact hc
    obtain ⟨v', w', hrun, h2, h3, _, h5⟩ := run_append_own_at (P := P) w base t ty e i z size bytes ht hi hz hsize hby hzs hsz v n xs hown ad m c news hl hcells h1 h63 hbytes hbase
    exact ⟨v', w', hrun, h2, h3, h5⟩

theorem wp_append_rd {o : Oper} {a : Act} {K : Act → World → Prop} {Q : Exit → Act → World → Prop} (s x : Operand) (t : TypeId)
    (ho : o.op = .call { callee := .builtin .append, args := #[s, x], argTypes := #[t, t] })
    (base : Nat) (e : TypeId) (i : TypeInfo) (z : Value) (size bytes : Nat) (ht : P.underlying t = some (.slice e)) (hi : P.info? e = some i) (hz : i.zero = some z)
    (hsize : i.size = size) (hby : i.bytes = bytes) (hzs : z.cells.size = size) (hsz : 0 < size)
    (v : Value) (n : Nat) (xs : List Value) (hs : a.eval s = v) (hown : w.ownsRow base e size v n xs)
    (A : Option Addr) (m c : Nat) (news : List Value) (hx : a.eval x = .slice A m c) (hl : news.length = m * size) (hr : Rd w A news) (h1 : ∀ u ∈ news, u.oneCell' = true)
    (h63 : n + m ≤ maxLen) (hbytes : (n + m) * bytes ≤ 140737488355328) (hbase : base ≤ w.heap.size)
    (h : ∀ v' w', w'.ownsRow base e size v' (n + m) (xs ++ news) → w.grownBy w' v.ownBlock → (v'.ownBlock = v.ownBlock ∨ v'.ownBlock = some w.heap.size) → K (a.put o.dst v') w') : o.wp P a w K Q := by
  obtain ⟨v', w', hrun, h2, h3, h4⟩ := run_append_rd (P := P) w base t o.type e i z size bytes ht hi hz hsize hby hzs hsz v n xs hown A m c news hl hr h1 h63 hbytes hbase
  unfold Oper.wp execOp
  simp only [ho, resolve, invoke, builtin, Sem.run_bind, Sem.run_pure, Result.andThen_ok, List.map_toArray, List.map_cons, List.map_nil, hs, hx, hrun]
  exact h v' w' h2 h3 h4

theorem wpList_append_rd {ops : Array Oper} {rest : List Oper} {o : Oper} {a : Act} {Q : Exit → Act → World → Prop} (hgd : o.guard = none) (s x : Operand) (t : TypeId)
    (ho : o.op = .call { callee := .builtin .append, args := #[s, x], argTypes := #[t, t] })
    (base : Nat) (e : TypeId) (i : TypeInfo) (z : Value) (size bytes : Nat) (ht : P.underlying t = some (.slice e)) (hi : P.info? e = some i) (hz : i.zero = some z)
    (hsize : i.size = size) (hby : i.bytes = bytes) (hzs : z.cells.size = size) (hsz : 0 < size)
    (v : Value) (n : Nat) (xs : List Value) (hs : a.eval s = v) (hown : w.ownsRow base e size v n xs)
    (A : Option Addr) (m c : Nat) (news : List Value) (hx : a.eval x = .slice A m c) (hl : news.length = m * size) (hr : Rd w A news) (h1 : ∀ u ∈ news, u.oneCell' = true)
    (h63 : n + m ≤ maxLen) (hbytes : (n + m) * bytes ≤ 140737488355328) (hbase : base ≤ w.heap.size)
    (h : ∀ v' w', w'.ownsRow base e size v' (n + m) (xs ++ news) → w.grownBy w' v.ownBlock → (v'.ownBlock = v.ownBlock ∨ v'.ownBlock = some w.heap.size) → wpList P ops Q rest (a.put o.dst v') w') : wpList P ops Q (o :: rest) a w :=
  wpList_plain hgd fun _ hK => wp_append_rd w s x t ho base e i z size bytes ht hi hz hsize hby hzs hsz v n xs hs hown A m c news hx hl hr h1 h63 hbytes hbase fun v' w' h2 h3 h4 => hK _ _ (h v' w' h2 h3 h4)
end

/-- a slice type t over the element type e: its cells and bytes an element -/
def SlT (P : Program) (t e : TypeId) (size bytes : Nat) : Prop :=
  ∃ i z, P.underlying t = some (.slice e) ∧ P.info? e = some i ∧ i.zero = some z ∧ i.size = size ∧ i.bytes = bytes ∧ z.cells.size = size ∧ 0 < size

theorem SlT.of {P : Program} {t e : TypeId} {size bytes : Nat} (h1 : P.underlying t = some (.slice e)) (h2 : (P.info? e).map (fun i => (i.zero.map fun z => z.cells.size, i.size, i.bytes)) = some (some size, size, bytes)) (h3 : 0 < size) : SlT P t e size bytes := by
  cases hi : P.info? e with
  | none => rw [hi] at h2; cases h2
  | some i =>
    rw [hi] at h2
    simp only [Option.map_some, Option.some.injEq, Prod.mk.injEq] at h2
    cases hz : i.zero with
    | none => rw [hz] at h2; cases h2.1
    | some z =>
      rw [hz] at h2
      exact ⟨i, z, h1, hi, hz, h2.2.1, h2.2.2, by simpa using h2.1, h3⟩

theorem below_of_grown {w w' : World} {base : Nat} {e : TypeId} {size : Nat} {v : Value} {n : Nat} {xs : List Value} (hown : w.ownsRow base e size v n xs) (hbase : base ≤ w.heap.size) (hg : w.grownBy w' v.ownBlock) : Below base w w' :=
  (Below.refl _ _).grown hg hbase (fun k hk => (hown.lt k hk).1)

theorem own_form {w : World} {base : Nat} {e : TypeId} {size : Nat} {v : Value} {n : Nat} {xs : List Value} (h : w.ownsRow base e size v n xs) : ∃ A c, v = .slice A n c := by
  rcases h.2 with ⟨rfl, rfl⟩ | ⟨g, cap, cur, rfl, _⟩
  · exact ⟨_, _, rfl⟩
  · exact ⟨_, _, rfl⟩
theorem own_addr {w : World} {base : Nat} {e : TypeId} {size : Nat} {A : Option Addr} {n c : Nat} {xs : List Value} (h : w.ownsRow base e size (.slice A n c) n xs) (hn : 0 < n) : ∃ g, A = some ⟨g, 0, none⟩ ∧ base ≤ g ∧ g < w.heap.size := by
  obtain ⟨g, cap, hv, hb, hlt⟩ := h.form hn
  injection hv with h1
  exact ⟨g, h1, hb, hlt⟩
theorem own_new {w : World} {base : Nat} {e : TypeId} {size : Nat} {A : Option Addr} {n c : Nat} {xs : List Value} (h : w.ownsRow base e size (.slice A n c) n xs) (hn : 0 < n) : ∀ ad, A = some ad → base ≤ ad.block := fun ad e => by
  obtain ⟨g, hA, hb, _⟩ := own_addr h hn
  rw [hA] at e; injection e with e; subst e; exact hb
theorem own_base {w : World} {base B : Nat} {e : TypeId} {size : Nat} {v : Value} {n : Nat} {xs : List Value} (h : w.ownsRow base e size v n xs) (hb : B ≤ base) : w.ownsRow B e size v n xs := by
  refine ⟨h.1, ?_⟩
  rcases h.2 with h | ⟨g, cap, cur, rfl, hg, h⟩
  · exact .inl h
  · exact .inr ⟨g, cap, cur, rfl, Nat.le_trans hb hg, h⟩
theorem own_below {w w' : World} {base B : Nat} {e : TypeId} {size : Nat} {v : Value} {n : Nat} {xs : List Value} (h : w.ownsRow base e size v n xs) (hb : Below B w w') (hB : w.heap.size ≤ B) : w'.ownsRow base e size v n xs := by
  refine ⟨h.1, ?_⟩
  rcases h.2 with h | ⟨g, cap, cur, rfl, hg, hh, h⟩
  · exact .inl h
  · refine .inr ⟨g, cap, cur, rfl, hg, ?_, h⟩
    rw [hb.block g ?_]; exact hh
    have : g < w.heap.size := by
      rcases Nat.lt_or_ge g w.heap.size with h | h
      · exact h
      · rw [Array.getElem?_eq_none h] at hh; cases hh
    omega
theorem own_cap {w : World} {base : Nat} {e : TypeId} {size : Nat} {A : Option Addr} {n c : Nat} {xs : List Value} (h : w.ownsRow base e size (.slice A n c) n xs) : n ≤ c ∧ c ≤ maxLen := by
  rcases h.2 with ⟨h1, _⟩ | ⟨g, cap, cur, h1, _, _, h2, h3, _⟩
  · injection h1 with a b d; subst b d; unfold maxLen; omega
  · injection h1 with a b d; subst d; exact ⟨h2, h3⟩
theorem own_take {w : World} {base : Nat} {e : TypeId} {size : Nat} {A : Option Addr} {n c : Nat} {xs : List Value} (h : w.ownsRow base e size (.slice A n c) n xs) (k : Nat) (hk : k ≤ n) :
    w.ownsRow base e size (.slice A k c) k (xs.take (k * size)) := by
  have hkn : k * size ≤ n * size := Nat.mul_le_mul_right _ hk
  refine ⟨by rw [List.length_take, h.1]; omega, ?_⟩
  rcases h.2 with ⟨h1, h2⟩ | ⟨g, cap, cur, h1, hb, hh, h2, h3, h4, h5⟩
  · injection h1 with a b d; subst a b d
    obtain rfl : k = 0 := by omega
    exact .inl ⟨rfl, rfl⟩
  · injection h1 with a b d; subst a d
    exact .inr ⟨g, c, cur, rfl, hb, hh, by omega, h3, h4, by rw [← h5, List.take_take, Nat.min_eq_left hkn]⟩
/-- a slice literal just made -/
theorem own_lit {w : World} {base : Nat} {e : TypeId} {size : Nat} (cs : Array Value) (n g : Nat) (hg : w.heap.size = g) (hb : base ≤ g) (hm : n ≤ 1000000) (hs : cs.size = n * size) :
    (w.alloc (.cells cs e)).ownsRow base e size (.slice (some ⟨g, 0, none⟩) n n) n cs.toList := by
  subst hg
  exact World.ownsRow_lit w cs n hb (by unfold maxLen; omega) hs
theorem own_drewN {w : World} {base : Nat} {e : TypeId} {size : Nat} {v : Value} {n : Nat} {xs : List Value} (h : w.ownsRow base e size v n xs) (k : Nat) : (w.drewN k).ownsRow base e size v n xs := h

/-- append onto a row of the call's own; nm, ys: the new length and cells as the walk is to write them -/
theorem wpList_app {P : Program} {w : World} {ops : Array Oper} {rest : List Oper} {o : Oper} {a : Act} {Q : Exit → Act → World → Prop} {s x : Operand} {t e : TypeId} {size bytes base n m c : Nat} {v : Value} {xs news : List Value} {A : Option Addr}
    (nm : Nat) (ys : List Value) (hgd : o.guard = none) (ho : o.op = .call { callee := .builtin .append, args := #[s, x], argTypes := #[t, t] })
    (hT : SlT P t e size bytes) (hown : w.ownsRow base e size v n xs) (hs : a.eval s = v) (hr : Rd w A news) (hx : a.eval x = .slice A m c) (hl : news.length = m * size)
    (h1 : ∀ u ∈ news, u.oneCell' = true) (hb : n + m ≤ maxLen ∧ (n + m) * bytes ≤ 140737488355328) (hbase : base ≤ w.heap.size) (hnm : n + m = nm) (hys : xs ++ news = ys)
    (h : ∀ A' c' w', w'.ownsRow base e size (.slice A' nm c') nm ys → Below base w w' → w.grownBy w' v.ownBlock → ((Value.slice A' nm c').ownBlock = v.ownBlock ∨ (Value.slice A' nm c').ownBlock = some w.heap.size) → wpList P ops Q rest (a.put o.dst (.slice A' nm c')) w') : wpList P ops Q (o :: rest) a w := by
  subst hnm hys
  obtain ⟨i, z, ht, hi, hz, hsize, hby, hzs, hsz⟩ := hT
  refine wpList_append_rd w hgd s x t ho base e i z size bytes ht hi hz hsize hby hzs hsz v n xs hs hown A m c news hx hl hr h1 hb.1 hb.2 hbase fun v' w' h2 h3 h4 => ?_
  obtain ⟨A', c', rfl⟩ := own_form h2
  exact h A' c' w' h2 (below_of_grown hown hbase h3) h3 h4

theorem oneCell_ints {k : IntKind} {l : List Int} : ∀ u ∈ l.map (Value.int k), u.oneCell' = true := fun u hu => by
  simp at hu; obtain ⟨a, _, rfl⟩ := hu; rfl

theorem Rd.one (w : World) (v : Value) (t : TypeId) : Rd (w.alloc (.cells #[v] t)) (some ⟨w.heap.size, 0, none⟩) [v] :=
  Rd.block (heap_alloc_new w _) (by intro j u hj; simpa using hj)
theorem oneCell_one {k : IntKind} {n : Int} : ∀ u ∈ [Value.int k n], u.oneCell' = true := fun u hu => by simp at hu; subst hu; rfl

theorem le_alloc {B : Nat} {w : World} (h : B ≤ w.heap.size) (o : Obj) : B ≤ (w.alloc o).heap.size := by simp; omega

theorem Rd.take {w : World} {A : Option Addr} {l : List Int} {k : IntKind} (h : Rd w A (l.map (Value.int k))) (n : Nat) : Rd w A ((l.take n).map (Value.int k)) := fun j v hj => by
  refine h j v ?_
  rw [List.map_take, List.getElem?_take] at hj
  split at hj
  · exact hj
  · cases hj
/-- a slice of structs: element k begins at a place of its own, its cells are row k -/
def RdS (w : World) (A : Option Addr) (s : Nat) (rows : List (List Value)) : Prop :=
  ∀ (k : Nat) (row : List Value), rows[k]? = some row → ∃ ad b o, A = some ad ∧ ad.add (k * s) = ⟨b, o, none⟩ ∧ ∀ (j : Nat) (v : Value), row[j]? = some v → w.cell? ⟨b, o + j, none⟩ = some v
theorem RdS.low {w w' : World} {A : Option Addr} {s : Nat} {rows : List (List Value)} (h : RdS w A s rows) (hb : Below w.heap.size w w') : RdS w' A s rows := fun k row hk => by
  obtain ⟨ad, b, o, e, ha, hc⟩ := h k row hk
  exact ⟨ad, b, o, e, ha, fun j v hj => (hb.cell (World.block_lt_of_cell? w _ (hc j v hj))).trans (hc j v hj)⟩
theorem andB {P Q : Prop} (b : Q) (f : Q → P) : P ∧ Q := ⟨f b, b⟩
theorem Below.drewN' {B : Nat} {a w : World} (h : Below B a w) (n : Nat) : Below B a (w.drewN n) := h.trans (below_drewN _ _ _)

/-! ### blocks, and what a call changes -/
/-- block g is just the cells cs of element type t, none frozen -/
def Blk (w : World) (g : Nat) (t : TypeId) (cs : Array Value) : Prop := w.heap[g]? = some (.cells cs t (0, 0))
/-- the blocks that were there have turned in S alone -/
structure Chg (S : Nat → Prop) (w w' : World) : Prop where
  os : w'.os = w.os
  tape : w'.tape = w.tape
  output : w'.output = w.output
  size : w.heap.size ≤ w'.heap.size
  block : ∀ k, k < w.heap.size → ¬ S k → w'.heap[k]? = w.heap[k]?

section
variable {w w' w'' : World} {g : Nat} {t : TypeId} {cs : Array Value} {S S' : Nat → Prop}
theorem Blk.lt (h : Blk w g t cs) : g < w.heap.size := by
  rcases Nat.lt_or_ge g w.heap.size with hlt | hge
  · exact hlt
  · unfold Blk at h; rw [Array.getElem?_eq_none hge] at h; cases h
theorem Blk.cell (h : Blk w g t cs) (i : Nat) : w.cell? ⟨g, i, none⟩ = cs[i]? := cell_of_row w g i cs t (0, 0) h
theorem Blk.frozen (h : Blk w g t cs) (i : Nat) : w.frozen? ⟨g, i, none⟩ = false := by
  unfold Blk at h
  simp [World.frozen?, h]
theorem Blk.new (w : World) (t : TypeId) (cs : Array Value) : Blk (w.alloc (.cells cs t)) w.heap.size t cs := heap_alloc_new w _
theorem Blk.drew (h : Blk w g t cs) : Blk w.drew g t cs := h
theorem Blk.drewN (h : Blk w g t cs) (n : Nat) : Blk (w.drewN n) g t cs := h
theorem Blk.alloc (h : Blk w g t cs) (o : Obj) : Blk (w.alloc o) g t cs := (Below.heap_alloc w o g h.lt).trans h
theorem Blk.set_ (h : Blk w g t cs) (i : Nat) (u : Value) : Blk (w.setCell ⟨g, i, none⟩ u) g t (cs.setIfInBounds i u) := by
  unfold Blk at h ⊢
  simp [World.setCell, Array.getElem?_modify, h]
theorem Blk.far (h : Blk w g t cs) {p : Addr} (hp : g ≠ p.block) (u : Value) : Blk (w.setCell p u) g t cs := (Below.heap_setCell w p u g hp).trans h
theorem Blk.below {B : Nat} (h : Blk w g t cs) (hb : Below B w w') (hg : g < B) : Blk w' g t cs := (hb.block g hg).trans h
theorem Blk.low (h : Blk w g t cs) (hb : Below w.heap.size w w') : Blk w' g t cs := h.below hb h.lt
theorem Blk.chg (h : Blk w g t cs) (hc : Chg S w w') (hg : ¬ S g) : Blk w' g t cs := (hc.block g h.lt hg).trans h
theorem Blk.ne_ {g' : Nat} {t' : TypeId} {cs' : Array Value} (h : Blk w g t cs) (h' : Blk w g' t' cs') (hne : t ≠ t') : g ≠ g' := by
  rintro rfl
  unfold Blk at h h'
  rw [h] at h'
  injection h' with h'
  injection h' with _ ht
  exact hne ht
theorem Chg.refl (S : Nat → Prop) (w : World) : Chg S w w := ⟨rfl, rfl, rfl, Nat.le_refl _, fun _ _ _ => rfl⟩
/-- two steps: what the second one turns was in S, or is new -/
theorem Chg.trans (h : Chg S w w') (h' : Chg S' w' w'') (hs : ∀ k, k < w.heap.size → S' k → S k) : Chg S w w'' :=
  ⟨h'.os.trans h.os, h'.tape.trans h.tape, h'.output.trans h.output, Nat.le_trans h.size h'.size, fun k hk hn =>
    (h'.block k (Nat.lt_of_lt_of_le hk h.size) (fun hs' => hn (hs k hk hs'))).trans (h.block k hk hn)⟩
theorem Chg.mono (h : Chg S w w') (hs : ∀ k, k < w.heap.size → S k → S' k) : Chg S' w w' :=
  ⟨h.os, h.tape, h.output, h.size, fun k hk hn => h.block k hk (fun h => hn (hs k hk h))⟩
theorem Chg.of_below (h : Below w.heap.size w w') (S : Nat → Prop) : Chg S w w' := ⟨h.os, h.tape, h.output, h.size, fun k hk _ => h.block k hk⟩
theorem Chg.below {B : Nat} (h : Chg S w w') (hs : ∀ k, S k → B ≤ k) (hB : B ≤ w.heap.size) : Below B w w' :=
  ⟨h.os, h.tape, h.output, h.size, fun k hk => h.block k (by omega) (fun h => by have := hs k h; omega)⟩
theorem Chg.grown {row : Option Nat} (h : w.grownBy w' row) : Chg (fun k => some k = row) w w' := ⟨h.os, h.tape, h.output, h.size, h.block⟩
theorem Chg.setCell (w : World) (p : Addr) (u : Value) : Chg (· = p.block) w (w.setCell p u) :=
  ⟨rfl, rfl, rfl, by simp [World.setCell], fun k _ hn => Below.heap_setCell w p u k hn⟩
theorem Chg.drewN (w : World) (n : Nat) (S : Nat → Prop) : Chg S w (w.drewN n) := Chg.of_below (below_drewN _ _ _) S
theorem Rd.chg {A : Option Addr} {l : List Value} (h : Rd w A l) (hc : Chg S w w') (hn : ∀ ad, A = some ad → ¬ S ad.block) : Rd w' A l :=
  h.keep fun p ⟨_, hv⟩ ⟨ad, hA, hb⟩ => World.cell?_of_block (hc.block p.block (World.block_lt_of_cell? w p hv) (hb ▸ hn ad hA))
theorem own_chg {base : Nat} {e : TypeId} {size : Nat} {v : Value} {n : Nat} {xs : List Value} (h : w.ownsRow base e size v n xs) (hc : Chg S w w') (hn : ∀ g, v.ownBlock = some g → ¬ S g) : w'.ownsRow base e size v n xs := by
  refine ⟨h.1, ?_⟩
  rcases h.2 with h | ⟨g, cap, cur, rfl, hg, hh, h⟩
  · exact .inl h
  · refine .inr ⟨g, cap, cur, rfl, hg, ?_, h⟩
    have : g < w.heap.size := by
      rcases Nat.lt_or_ge g w.heap.size with h | h
      · exact h
      · rw [Array.getElem?_eq_none h] at hh; cases hh
    rw [hc.block g this (hn g rfl)]; exact hh
theorem ownBlock_slice (A : Option Addr) (n c : Nat) : (Value.slice A n c).ownBlock = A.map (·.block) := by cases A <;> rfl
theorem own_to {base : Nat} {e : TypeId} {size : Nat} {A : Option Addr} {n c : Nat} {xs : List Value} (h : w.ownsRow base e size (.slice A n c) n xs) (hc : Chg S w w') (hn : ∀ g, A.map (·.block) = some g → ¬ S g) : w'.ownsRow base e size (.slice A n c) n xs :=
  own_chg h hc (fun g hg => hn g (by rw [← ownBlock_slice A n c]; exact hg))
theorem own_ne {base : Nat} {e : TypeId} {size n c : Nat} {A : Option Addr} {xs : List Value} (h : w.ownsRow base e size (.slice A n c) n xs) (hg : Blk w g t cs) (hne : e ≠ t) : A.map (·.block) ≠ some g := by
  rw [← ownBlock_slice A n c]
  rcases h.2 with ⟨h1, _⟩ | ⟨g', cap, cur, h1, _, hh, _⟩
  · rw [h1]; simp [Value.ownBlock]
  · rw [h1]
    intro he
    have : g' = g := by simpa [Value.ownBlock] using he
    subst this
    exact Blk.ne_ (t := e) hh hg hne rfl
theorem own_ne_blk {base : Nat} {e : TypeId} {size n : Nat} {v : Value} {xs : List Value} (h : w.ownsRow base e size v n xs) (hg : Blk w g t cs) (hne : e ≠ t) : v.ownBlock ≠ some g := by
  rcases h.2 with ⟨rfl, _⟩ | ⟨g', cap, cur, rfl, _, hh, _⟩
  · simp [Value.ownBlock]
  · intro he
    have : g' = g := by simpa [Value.ownBlock] using he
    subst this
    exact Blk.ne_ (t := e) hh hg hne rfl
end

/-- s[k:] of a slice: the address is named -/
def cutA (A : Option Addr) (cap k size : Nat) : Option Addr := if cap = k then A else A.map (·.add (k * size))
theorem run_from {P : Program} {t e : TypeId} {size bytes : Nat} (hT : SlT P t e size bytes) (A : Option Addr) (n cap k : Nat) (hk : k ≤ n) (W : World) :
    (Instr.slice t (.slice A n cap) (some (.int .i64 (k : Int))) none none).run P W = .ok (.slice (cutA A cap k size) (n - k) (cap - k)) W := by
  obtain ⟨i, z, ht, hi, hz, hsize, hby, hzs, hsz⟩ := hT
  have hE : P.elem t = e := by simp [Program.elem, ht]
  have ht' : P.underlying t = some (.slice (P.elem t)) := by rw [hE]; exact ht
  rw [run_slice_l W t _ _ _ ht' .i64 _ (by omega) (by omega)]
  simp [sizeOf, typeInfo, hE, hi, hsize, sliced, cutA, Result.andThen]
theorem Rd.cut {w : World} {A : Option Addr} {l : List Value} {size : Nat} (h : Rd w A l) (cap k : Nat) (hc : l.length ≤ cap * size) : Rd w (cutA A cap k size) (l.drop (k * size)) := fun j v hj => by
  rw [List.getElem?_drop] at hj
  obtain ⟨ad, e, hcell⟩ := h _ v hj
  have hlt : k * size + j < l.length := (List.getElem?_eq_some_iff.1 hj).1
  have hne : ¬ cap = k := by rintro rfl; omega
  subst e
  exact ⟨ad.add (k * size), by simp [cutA, hne], by rw [add_of_add]; exact hcell⟩

/-- the string that bytes make -/
def bstr (l : List Int) : ByteArray := ⟨(l.map fun n => UInt8.ofNat n.toNat).toArray⟩
theorem foldl_push (l : List Int) : ∀ r : ByteArray, l.foldl (fun r n => r.push (UInt8.ofNat n.toNat)) r = ⟨r.data ++ (l.map fun n => UInt8.ofNat n.toNat).toArray⟩ := by
  induction l with
  | nil => intro r; simp
  | cons n l ih => intro r; simp only [List.foldl_cons, ih]; simp [ByteArray.push, ByteArray.ext_iff]
theorem run_str {P : Program} (w : World) (src dst e : TypeId) (A : Option Addr) (l : List Int) (n c : Nat)
    (hs : P.underlying src = some (.slice e)) (he : P.underlying e = some (.int .u8)) (hd : P.underlying dst = some .string)
    (hr : Rd w A (l.map (Value.int .u8))) (hn : l.length = n) : (convert src dst (.slice A n c)).run P w = .ok (.string (bstr l)) w := by
  subst hn
  rw [run_convert_bytes_string w src dst e A _ c hs he hd]
  rcases A with _ | ad
  · cases l with
    | nil => simp [Conv.bytesToString, bstr, Sem.run_pure]; rfl
    | cons n l => obtain ⟨ad, h, _⟩ := hr 0 (.int .u8 n) rfl; cases h
  · have := run_loadCells_list (P := P) (w := w) ad (l.map (Value.int .u8)) (fun j v hj => by obtain ⟨ad', h, hc⟩ := hr j v hj; injection h with h; subst h; exact hc)
    rw [List.length_map] at this
    rw [run_bytesToString w ad l.length c l this, foldl_push]
    simp [bstr]

end Go.Proofs.Ytgpdodhegacndaa
