/- Layer 49: records as plain data, and the walks of the small functions. -/
import Derived.Test.YtgmhcfhmpjpomaaCkWalks
import Derived.Test.YtgmhcfhmpjpomaaCkT
import Derived.Test.YtgmhcfhmpjpomaaCkInj
import Derived.Test.YtgmhcfhmpjpomaaMem
import Derived.RegionTactic
import Derived.BigRegion
import Derived.Deep.RegionHeldLaw
import Derived.Deep.DrawnRows
import Derived.Deep.DeepCutAuto
import Derived.Laws.ResultCell
namespace Go.Proofs.Ytgmhcfhmpjpomaa
set_option linter.unusedSimpArgs false
set_option linter.unusedVariables false
open Go.RowKit

namespace Hi
/-- a record -/
structure V where
  t : Int
  e : Int
  b : Int
  d : Int
  s : Int
  deriving DecidableEq
def V.cells (v : V) : List Value := [.int .i64 v.t, .int .i64 v.e, .int .u64 v.b, .int .u64 v.d, .int .u64 v.s]
def vals (l : List V) : List Value := l.flatMap V.cells
def I64 (n : Int) : Prop := -9223372036854775808 ≤ n ∧ n ≤ 9223372036854775807
def V.ok (v : V) : Prop := I64 v.t ∧ I64 v.e ∧ Ck.U64 v.b ∧ Ck.U64 v.d ∧ Ck.U64 v.s
def rg (n : Int) : Bool := decide (0 ≤ n ∧ n ≤ 1099511627776)
def sl (p : Int) (v : V) : Int := Ck.intsI [wrap64 p, v.t, v.e, wrap64 v.b, wrap64 v.d]
def same (a b : V) : Bool := a.e == b.e && a.b == b.b && a.d == b.d
theorem vals_len (l : List V) : (vals l).length = l.length * 5 := by
  induction l with
  | nil => rfl
  | cons a l ih => simp [vals, V.cells] at ih ⊢; omega
theorem vals_append (a b : List V) : vals (a ++ b) = vals a ++ vals b := by simp [vals]
theorem vals_one (l : List V) : ∀ u ∈ vals l, u.oneCell' = true := by
  intro u hu
  obtain ⟨v, _, h⟩ := List.mem_flatMap.1 hu
  simp [V.cells] at h
  rcases h with rfl | rfl | rfl | rfl | rfl <;> rfl
theorem vals_at : ∀ (l : List V) (k j : Nat) (h : k < l.length) (u : Value), l[k].cells[j]? = some u → (vals l)[k * 5 + j]? = some u
  | a :: l, 0, j, _, u, hu => by
    have hj : j < 5 := by have := (List.getElem?_eq_some_iff.1 hu).1; simpa [V.cells] using this
    show (a.cells ++ vals l)[0 * 5 + j]? = some u
    rw [show 0 * 5 + j = j by omega, List.getElem?_append_left (by simpa [V.cells] using hj)]; exact hu
  | a :: l, k + 1, j, h, u, hu => by
    show (a.cells ++ vals l)[(k + 1) * 5 + j]? = some u
    rw [List.getElem?_append_right (by simp [V.cells]; omega), show (k + 1) * 5 + j - a.cells.length = k * 5 + j by simp [V.cells]; omega]
    exact vals_at l k j (by simpa using h) u hu
theorem sl_u64 (p : Int) (v : V) : Ck.U64 (sl p v) := by
  unfold sl; rw [Ck.intsI_eq]; exact Ck.moreI_bd _ _ (by unfold Ck.init; omega)
end Hi

/-- record k of a slice of records that is only read -/
theorem rd_vals {w : World} {A : Option Addr} {l : List Hi.V} (h : Rd w A (Hi.vals l)) (k : Nat) (hk : k < l.length) :
    ∃ ad b o, A = some ad ∧ ad.add (k * 5) = ⟨b, o, none⟩ ∧ w.cell? ⟨b, o, none⟩ = some (.int .i64 l[k].t) ∧ w.cell? ⟨b, o + 1, none⟩ = some (.int .i64 l[k].e) ∧
      w.cell? ⟨b, o + 2, none⟩ = some (.int .u64 l[k].b) ∧ w.cell? ⟨b, o + 3, none⟩ = some (.int .u64 l[k].d) ∧ w.cell? ⟨b, o + 4, none⟩ = some (.int .u64 l[k].s) := by
  obtain ⟨ad, hA, c0⟩ := h (k * 5 + 0) _ (Hi.vals_at l k 0 hk (.int .i64 l[k].t) rfl)
  obtain ⟨bl, of, sp, had⟩ : ∃ bl of sp, ad.add (k * 5) = ⟨bl, of, sp⟩ := ⟨_, _, _, rfl⟩
  have hadd : ∀ j, ad.add (k * 5 + j) = (⟨bl, of, sp⟩ : Addr).add j := fun j => by rw [← had, add_of_add]
  have get : ∀ j u, l[k].cells[j]? = some u → w.cell? ((⟨bl, of, sp⟩ : Addr).add j) = some u := fun j u hu => by
    obtain ⟨ad', hA', c⟩ := h (k * 5 + j) u (Hi.vals_at l k j hk u hu)
    rw [hA] at hA'; injection hA' with hA'; subst hA'
    rw [← hadd]; exact c
  have d0 : w.cell? ⟨bl, of, sp⟩ = some (.int .i64 l[k].t) := get 0 _ rfl
  have hsp : sp = none := by simpa using World.cell?_spot d0
  subst hsp
  exact ⟨ad, bl, of, hA, had, d0, get 1 _ rfl, get 2 _ rfl, get 3 _ rfl, get 4 _ rfl⟩

theorem hrg_any (n : Int) (w : World) : Calls Try.prog 27 #[.int .i64 n] w fun e w' => e = .returned (.bool (Hi.rg n)) ∧ w = w' := by
  by_cases h : 0 ≤ n ∧ n ≤ 1099511627776
  · have H := Lib.hid (show Hi.rg n = true from decide_eq_true h)
    obtain ⟨h1, h2⟩ := h
    go_enter Try.func27, Try.ntmps27
    go_wp2
    go_ret
    exact ⟨ret_bool H.out.symm, rfl⟩
  · have H := Lib.hid (show Hi.rg n = false from decide_eq_false h)
    by_cases h1 : 0 ≤ n
    · have h2 : ¬ n ≤ 1099511627776 := fun b => h ⟨h1, b⟩
      clear h
      go_enter Try.func27, Try.ntmps27
      go_wp2
      go_ret
      exact ⟨ret_bool H.out.symm, rfl⟩
    · clear h
      go_enter Try.func27, Try.ntmps27
      go_wp2
      go_ret
      exact ⟨ret_bool H.out.symm, rfl⟩
theorem most_any (w : World) : Calls Try.prog 31 #[] w fun e w' => e = .returned (.int .i64 1099511627776) ∧ w = w' := by
  go_enter Try.func31, Try.ntmps31
  go_wp2
  go_ret
  exact ⟨rfl, rfl⟩

theorem rdLitI (w : World) (l : List Int) (cs : Array Value) (h : cs = (l.map (Value.int .i64)).toArray) (t : TypeId) (fr : Nat × Nat) (g : Nat) (hg : w.heap.size = g) : Rd (w.alloc (.cells cs t fr)) (some ⟨g, 0, none⟩) (l.map (Value.int .i64)) := by
  subst hg
  exact Rd.block (heap_alloc_new w _) (by subst h; intro j v hj; simpa using hj)

set_option maxRecDepth 100000 in
theorem seal_any (p : Int) (v : Hi.V) (w : World) :
    Calls Try.prog 28 #[.int .u64 p, .agg #[.int .i64 v.t, .int .i64 v.e, .int .u64 v.b, .int .u64 v.d, .int .u64 v.s]] w fun e w' => e = .returned (.int .u64 (Hi.sl p v)) ∧ Below w.heap.size w w' := by
  have HR := Lib.hid (rdLitI (w.alloc (.cells #[.int .i64 v.t, .int .i64 v.e, .int .u64 v.b, .int .u64 v.d, .int .u64 v.s] 30)) [wrap64 p, v.t, v.e, wrap64 v.b, wrap64 v.d] #[.int .i64 (wrap64 p), .int .i64 v.t, .int .i64 v.e, .int .i64 (wrap64 v.b), .int .i64 (wrap64 v.d)] rfl 2 (0, 0) (w.heap.size + 1) (by simp))
  go_enter Try.func28, Try.ntmps28
  go_wp2_with fail
  refine (sumInts_any _ [wrap64 p, v.t, v.e, wrap64 v.b, wrap64 v.d] 5 _ HR.out (by unfold maxLen; simp)).mono ?_
  rintro e w1 ⟨rfl, rfl⟩
  go_wp2
  go_ret
  exact ⟨rfl, ((Below.refl _ _).alloc (Nat.le_refl _) _).alloc (by simp) _⟩
set_option maxRecDepth 100000 in
theorem rseal_any (p : Int) (v : Hi.V) (w : World) :
    Calls Try.prog 32 #[.int .u64 p, .agg #[.int .i64 v.t, .int .i64 v.e, .int .u64 v.b, .int .u64 v.d, .int .u64 v.s]] w fun e w' => e = .returned (.int .u64 (Hi.sl p v)) ∧ Below w.heap.size w w' := by
  have HR := Lib.hid (rdLitI (w.alloc (.cells #[.int .i64 v.t, .int .i64 v.e, .int .u64 v.b, .int .u64 v.d, .int .u64 v.s] 33)) [wrap64 p, v.t, v.e, wrap64 v.b, wrap64 v.d] #[.int .i64 (wrap64 p), .int .i64 v.t, .int .i64 v.e, .int .i64 (wrap64 v.b), .int .i64 (wrap64 v.d)] rfl 2 (0, 0) (w.heap.size + 1) (by simp))
  go_enter Try.func32, Try.ntmps32
  go_wp2_with fail
  refine (words_any _ [wrap64 p, v.t, v.e, wrap64 v.b, wrap64 v.d] 5 _ HR.out (by simp)).mono ?_
  rintro e w1 ⟨rfl, hb⟩
  have HB := Lib.hid hb
  clear hb
  go_wp2
  go_ret
  have h2 := ((Below.refl w.heap.size w).alloc (Nat.le_refl _) (.cells #[.int .i64 v.t, .int .i64 v.e, .int .u64 v.b, .int .u64 v.d, .int .u64 v.s] 33))
  have h3 := h2.alloc h2.size (.cells #[.int .i64 (wrap64 p), .int .i64 v.t, .int .i64 v.e, .int .i64 (wrap64 v.b), .int .i64 (wrap64 v.d)] 2)
  exact ⟨rfl, h3.trans (HB.out.mono h3.size)⟩
set_option maxRecDepth 100000 in
theorem same_any (a b : Hi.V) (w : World) :
    Calls Try.prog 29 #[.agg #[.int .i64 a.t, .int .i64 a.e, .int .u64 a.b, .int .u64 a.d, .int .u64 a.s], .agg #[.int .i64 b.t, .int .i64 b.e, .int .u64 b.b, .int .u64 b.d, .int .u64 b.s]] w fun e w' => e = .returned (.bool (Hi.same a b)) ∧ Below w.heap.size w w' := by
  go_enter Try.func29, Try.ntmps29
  go_wp2
  all_goals
    go_ret
    exact ⟨ret_bool (by simp_all [Hi.same]), ((Below.refl _ _).alloc (Nat.le_refl _) _).alloc (by simp) _⟩
end Go.Proofs.Ytgmhcfhmpjpomaa
