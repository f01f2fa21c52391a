/- TopTalks: words for protocols, in plain Lean and in memory; strings byte by byte. -/
import Derived.Test.YtpoacekefhblhaaT09
import Derived.Test.YtpoacekefhblhaaTkS
import Derived.Test.YtpoacekefhblhaaGj
import Derived.Lib.SliceRun
namespace Go.Proofs.Ytpoacekefhblhaa
set_option linter.unusedSimpArgs false
set_option linter.unusedVariables false
open Go.RowKit
namespace Tk
/-- byte j of a string -/
def byt (s : ByteArray) (j : Nat) : Int := ((s.data[j]?).map fun b => (b.toNat : Int)).getD 0
theorem byt_get {s : ByteArray} {j : Nat} (h : j < s.size) : ((s[j]'h).toNat : Int) = byt s j := by
  have h' : j < s.data.size := h
  unfold byt
  rw [Array.getElem?_eq_getElem h']
  rfl
end Tk
namespace Fw
section
variable {P : Program} {n : Nat} {f : Fr} {C : World → Prop} {t ty : TypeId} {x y : Operand}
theorem val_indexS {s : ByteArray} {k : IntKind} {i : Int} {j : Nat} (ht : P.underlying t = some .string) (hx : ev f x = some (.string s)) (hi : ev f y = some (.int k i)) (hj : i = (j : Nat)) (hlt : j < s.size) : Val P n f C (.index t x y) ty (.int .u8 (Tk.byt s j)) := fun _ _ _ _ a w hh _ => by
  subst hj
  unfold execOp; simp only [hh.eval hx, hh.eval hi]
  rw [Sem.run_bind, run_index_string w t s k (j : Int) ht, dif_pos ⟨by omega, by omega⟩]
  rw [← Tk.byt_get hlt]
  rfl
end
theorem b_nilS {P : Program} {t e : TypeId} {x y : Operand} {A : Option Addr} {n c n' c' : Nat} (h : P.underlying t = some (.slice e)) : Bin P .eql t x y (.slice A n c) (.slice none n' c') (.bool A.isNone) := fun w => by
  have g : (eqGuard .eql t x y (.slice A n c) (.slice none n' c')).run P w = .ok () w := rfl
  rw [Sem.run_bind, g]; simp only [Result.andThen_ok]; exact Lib.run_eql_slice_nil w _ _ A n c n' c' h
theorem RdT.ne_ {w : World} {ty : TypeId} {A : Option Addr} {l : List Value} {g t : Nat} {cs : Array Value} (h : Fw.RdT w ty A l) (hb : Blk w g t cs) (hne : ty ≠ t) : ∀ ad, A = some ad → ¬ ad.block = g := fun ad e hg => by
  obtain ⟨cs', fr, hh⟩ := h.2 ad e
  rw [hg] at hh
  unfold Blk at hb
  rw [hb] at hh
  injection hh with hh
  injection hh with _ hh _
  exact hne hh.symm
theorem regionLS {ds : List Deferred} {P : Program} {Q : Exit → Act → World → Prop} {n : Nat} {f : Fr} {w : World} {id : Nat} {ops : Array Oper} (S : World → Prop) (k : Nat) (hm : P.follows .mixedOrders = true) (hS : S w.drew) (h : ∀ w', Below w.heap.size w w' → S w' → FLs P Q S k n ds ops ops.size (Array.replicate ops.size false) f w') : FC P Q n ds (.region id ops true) f w := fun a ha =>
  wp_region_noPanic (wp_region_any hm (wpL_any _ _ _ _ (h _ (drew_low w) hS hS a ha)))
section
variable {w w' : World} {base base' e e' size size' n n' c c' g : Nat} {A A' : Option Addr} {xs ys l : List Value} {ty : TypeId}
theorem own_lo (h : w.ownsRow base e size (.slice A n c) n xs) {k : Nat} (hk : A.map (·.block) = some k) : base ≤ k := by
  rcases h.2 with ⟨h1, _⟩ | ⟨g', cap, cur, h1, hb, _⟩
  · injection h1 with a; subst a; cases hk
  · injection h1 with a; subst a; injection hk with hk; rw [← hk]; exact hb
theorem own_hi (h : w.ownsRow base e size (.slice A n c) n xs) {k : Nat} (hk : A.map (·.block) = some k) : k < w.heap.size := by
  rcases h.2 with ⟨h1, _⟩ | ⟨g', cap, cur, h1, hb, hh, _⟩
  · injection h1 with a; subst a; cases hk
  · injection h1 with a; subst a; injection hk with hk
    have := (Array.getElem?_eq_some_iff.1 hh).1
    have e : g' = k := hk
    omega
/-- a row that is read goes over the change of an own row of another type -/
theorem RdT.chgO (h : Fw.RdT w ty A l) (ho : w.ownsRow base e size (.slice (some ⟨g, 0, none⟩) n c) n xs) (hne : ty ≠ e) (hc : Chg (· = g) w w') : Fw.RdT w' ty A l := by
  obtain ⟨cur, hb, _⟩ := Fw.own_at ho
  exact h.chg hc (h.ne_ hb hne)
theorem RdT.chgA (h : Fw.RdT w ty A l) (ho : w.ownsRow base e size (.slice A' n c) n xs) (hne : ty ≠ e) (hc : Chg (fun k => some k = (Value.slice A' n c).ownBlock) w w') : Fw.RdT w' ty A l := by
  refine h.chg hc fun ad hA e_ => ?_
  rcases ho.2 with ⟨h1, _⟩ | ⟨g', cap, cur, h1, hb, hh, _⟩
  · injection h1 with a; subst a; cases e_
  · injection h1 with a; subst a
    injection e_ with e_
    exact h.ne_ (g := g') (t := e) (cs := cur) hh hne ad hA e_
theorem own_toO (h : w.ownsRow base e size (.slice A n c) n xs) (ho : w.ownsRow base' e' size' (.slice (some ⟨g, 0, none⟩) n' c') n' ys) (hne : e ≠ e') (hc : Chg (· = g) w w') : w'.ownsRow base e size (.slice A n c) n xs := by
  obtain ⟨cur, hb, _⟩ := Fw.own_at ho
  exact own_to h hc fun g_ h_ e_ => own_ne h hb hne (by rw [h_, e_])
/-- an own row goes over the change of an own row of another type, whose block has no name -/
theorem own_toA (h : w.ownsRow base e size (.slice A n c) n xs) (ho : w.ownsRow base' e' size' (.slice A' n' c') n' ys) (hne : e ≠ e') (hc : Chg (fun k => some k = (Value.slice A' n' c').ownBlock) w w') : w'.ownsRow base e size (.slice A n c) n xs := by
  refine own_to h hc fun g_ h_ e_ => ?_
  rcases ho.2 with ⟨h1, _⟩ | ⟨g', cap, cur, h1, hb, hh, _⟩
  · injection h1 with a; subst a; cases e_
  · injection h1 with a; subst a
    injection e_ with e_
    exact own_ne h (g := g_) (t := e') (cs := cur) (by rw [e_]; exact hh) hne h_
end
end Fw
namespace Tk
structure An where
  text : ByteArray
  next : Int
  urg : Int
  code : ByteArray
def An.cells (a : An) : List Value := [.string a.text, .int .i64 a.next, .int .i64 a.urg, .string a.code]
structure Qu where
  text : ByteArray
  A : Option Addr
  c : Nat
  an : List An
def Qu.cells (q : Qu) : List Value := [.string q.text, .slice q.A q.an.length q.c]
structure Fo where
  A : Option Addr
  c : Nat
  l : List Nat
def Fo.cell (f : Fo) : Value := .slice f.A f.l.length f.c
def nats (l : List Nat) : List Value := l.map fun (x : Nat) => Value.int .i64 (x : Int)
theorem An.len : ∀ a : An, a.cells.length = 4 := fun _ => rfl
theorem Qu.len : ∀ a : Qu, a.cells.length = 2 := fun _ => rfl
theorem empty_iff {s t : ByteArray} (ht : t.size = 0) : s = t ↔ s.size = 0 := by
  constructor
  · intro h; rw [h]; exact ht
  · intro h
    obtain ⟨⟨a⟩⟩ := s
    obtain ⟨⟨b⟩⟩ := t
    have h1 : a.length = 0 := h
    have h2 : b.length = 0 := ht
    rw [List.length_eq_zero_iff.1 h1, List.length_eq_zero_iff.1 h2]
/-- 1 to n bytes, all from lo to hi -/
def Cons (s : ByteArray) (n lo hi : Int) : Prop := s.size ≠ 0 ∧ (s.size : Int) ≤ n ∧ ∀ j : Nat, j < s.size → lo ≤ byt s j ∧ byt s j ≤ hi
def Phr (s : ByteArray) (n : Int) : Prop := Cons s n 32 126 ∧ byt s 0 ≠ 32 ∧ byt s (s.size - 1) ≠ 32
def Cod (s : ByteArray) : Prop := Cons s 40 33 126
def nmc (c : Int) : Prop := (97 ≤ c ∧ c ≤ 122) ∨ (48 ≤ c ∧ c ≤ 57) ∨ c = 45
def Nam (s : ByteArray) : Prop := s.size ≠ 0 ∧ (s.size : Int) ≤ 40 ∧ ∀ j : Nat, j < s.size → nmc (byt s j)
def VA (N : Nat) (a : An) : Prop := Phr a.text 100 ∧ ((a.next = -1 ∧ (1 ≤ a.urg ∧ a.urg ≤ 5) ∧ Cod a.code) ∨ (a.next ≠ -1 ∧ (0 ≤ a.next ∧ a.next < N) ∧ a.urg = 0 ∧ a.code.size = 0))
def VQ (N : Nat) (q : Qu) : Prop := Phr q.text 200 ∧ (1 ≤ q.an.length ∧ q.an.length ≤ 16) ∧ ∀ a ∈ q.an, VA N a
/-- what Validate accepts -/
def VP (nm : ByteArray) (ver : Int) (qs : List Qu) : Prop := (∀ q ∈ qs, VQ qs.length q) ∧ Nam nm ∧ (1 ≤ ver ∧ ver ≤ 1048576) ∧ 1 ≤ qs.length ∧ qs.length ≤ 64
/-- the questions at T, with their answers -/
def QsAt (w : World) (T : Option Addr) (qs : List Qu) : Prop := Rd w T (qs.flatMap Qu.cells) ∧ ∀ q ∈ qs, Rd w q.A (q.an.flatMap An.cells)
theorem QsAt.low {w w' : World} {T : Option Addr} {qs : List Qu} (h : QsAt w T qs) (hb : Below w.heap.size w w') : QsAt w' T qs := ⟨h.1.low hb, fun q hq => (h.2 q hq).low hb⟩
/-- the lists of followers at T -/
def FsAt (w : World) (T : Option Addr) (fs : List Fo) : Prop := Rd w T (fs.map Fo.cell) ∧ ∀ f ∈ fs, Rd w f.A (nats f.l)
theorem FsAt.low {w w' : World} {T : Option Addr} {fs : List Fo} (h : FsAt w T fs) (hb : Below w.heap.size w w') : FsAt w' T fs := ⟨h.1.low hb, fun q hq => (h.2 q hq).low hb⟩
theorem all_take {T : Type} {P : T → Prop} {l : List T} {k : Nat} (hk : k < l.length) (h : ∀ x ∈ l.take k, P x) (h' : P l[k]) : ∀ x ∈ l.take (k + 1), P x := by
  rw [List.take_succ_eq_append_getElem hk]
  intro x hx
  rcases List.mem_append.1 hx with hx | hx
  · exact h x hx
  · rw [List.mem_singleton.1 hx]; exact h'
end Tk
end Go.Proofs.Ytpoacekefhblhaa
