/- Layer 28: orders and statuses as plain data, and the walks of their checks. -/
import Derived.Test.YtodhpooddmeghaaRfA
namespace Go.Proofs.Ytodhpooddmeghaa
set_option linter.unusedSimpArgs false
set_option linter.unusedVariables false
open Go.RowKit

namespace Or
/-- an order -/
structure O where
  u : Int
  e : Int
  k : Int
  i : Int
  n : Int
  deriving DecidableEq
/-- a status -/
structure S where
  u : Int
  q : Int
  s : Int
  n : Int
  e : Int
  deriving DecidableEq
def vu (n : Int) : Bool := decide (0 ≤ n ∧ n < 256)
def vn (n : Int) : Bool := decide (0 ≤ n ∧ n < 4096)
def rg (n m : Int) : Bool := decide (m ≤ n ∧ n ≤ 1099511627776)
def kindOk (o : O) : Bool := if o.k = 1 then rg o.i 1 && vn o.n else if o.k = 2 then o.i == 0 && o.n == 0 else if o.k = 3 then o.i == 0 && vn o.n else false
def valid (o : O) : Bool := vu o.u && rg o.e 1 && kindOk o
def st (s : Int) : Bool := decide (s = 1 ∨ 3 ≤ s ∧ s ≤ 6)
def fit (s : S) : Bool := st s.s && (vu s.u && rg s.q 1 && vn s.n && rg s.e 0)
def O64 (o : O) : Prop := Wr.I64 o.u ∧ Wr.I64 o.e ∧ Wr.I64 o.k ∧ Wr.I64 o.i ∧ Wr.I64 o.n
def S64 (s : S) : Prop := Wr.I64 s.u ∧ Wr.I64 s.q ∧ Wr.I64 s.s ∧ Wr.I64 s.n ∧ Wr.I64 s.e
end Or

theorem vu_any (n : Int) (w : World) : Calls Try.prog 52 #[.int .i64 n] w fun e w' => e = .returned (.bool (Or.vu n)) ∧ w = w' := by
  by_cases h : 0 ≤ n ∧ n < 256
  · have H := Lib.hid (show Or.vu n = true from decide_eq_true h)
    obtain ⟨h1, h2⟩ := h
    go_enter Try.func52, Try.ntmps52
    go_wp2
    go_ret
    exact ⟨ret_bool H.out.symm, rfl⟩
  · have H := Lib.hid (show Or.vu n = false from decide_eq_false h)
    by_cases h1 : 0 ≤ n
    · have h2 : ¬ n < 256 := fun b => h ⟨h1, b⟩
      clear h
      go_enter Try.func52, Try.ntmps52
      go_wp2
      go_ret
      exact ⟨ret_bool H.out.symm, rfl⟩
    · clear h
      go_enter Try.func52, Try.ntmps52
      go_wp2
      go_ret
      exact ⟨ret_bool H.out.symm, rfl⟩
theorem vn_any (n : Int) (w : World) : Calls Try.prog 56 #[.int .i64 n] w fun e w' => e = .returned (.bool (Or.vn n)) ∧ w = w' := by
  by_cases h : 0 ≤ n ∧ n < 4096
  · have H := Lib.hid (show Or.vn n = true from decide_eq_true h)
    obtain ⟨h1, h2⟩ := h
    go_enter Try.func56, Try.ntmps56
    go_wp2
    go_ret
    exact ⟨ret_bool H.out.symm, rfl⟩
  · have H := Lib.hid (show Or.vn n = false from decide_eq_false h)
    by_cases h1 : 0 ≤ n
    · have h2 : ¬ n < 4096 := fun b => h ⟨h1, b⟩
      clear h
      go_enter Try.func56, Try.ntmps56
      go_wp2
      go_ret
      exact ⟨ret_bool H.out.symm, rfl⟩
    · clear h
      go_enter Try.func56, Try.ntmps56
      go_wp2
      go_ret
      exact ⟨ret_bool H.out.symm, rfl⟩
theorem rg_any (n : Int) (m : Int) (w : World) : Calls Try.prog 55 #[.int .i64 n, .int .i64 m] w fun e w' => e = .returned (.bool (Or.rg n m)) ∧ w = w' := by
  by_cases h : m ≤ n ∧ n ≤ 1099511627776
  · have H := Lib.hid (show Or.rg n m = true from decide_eq_true h)
    obtain ⟨h1, h2⟩ := h
    go_enter Try.func55, Try.ntmps55
    go_wp2
    go_ret
    exact ⟨ret_bool H.out.symm, rfl⟩
  · have H := Lib.hid (show Or.rg n m = false from decide_eq_false h)
    by_cases h1 : m ≤ n
    · have h2 : ¬ n ≤ 1099511627776 := fun b => h ⟨h1, b⟩
      clear h
      go_enter Try.func55, Try.ntmps55
      go_wp2
      go_ret
      exact ⟨ret_bool H.out.symm, rfl⟩
    · clear h
      go_enter Try.func55, Try.ntmps55
      go_wp2
      go_ret
      exact ⟨ret_bool H.out.symm, rfl⟩
set_option maxRecDepth 100000 in
theorem valid_any (o : Or.O) (w : World) : Calls Try.prog 38 #[.agg #[.int .i64 o.u, .int .i64 o.e, .int .i64 o.k, .int .i64 o.i, .int .i64 o.n]] w fun e w' => e = .returned (.bool (Or.valid o)) ∧ Below w.heap.size w w' := by
  go_enter Try.func38, Try.ntmps38
  go_wp2_with (first | (go_at_call 52; refine (vu_any _ _).mono ?_; rintro e w' ⟨rfl, rfl⟩) | (go_at_call 56; refine (vn_any _ _).mono ?_; rintro e w' ⟨rfl, rfl⟩) | (go_at_call 55; refine (rg_any _ _ _).mono ?_; rintro e w' ⟨rfl, rfl⟩))
  all_goals
    go_ret
    exact ⟨ret_bool (by simp_all [Or.valid, Or.kindOk] <;> (intros; exfalso; omega)), (Below.refl _ _).alloc (Nat.le_refl _) _⟩

set_option maxRecDepth 100000 in
theorem vstatus_any (s : Or.S) (w : World) : Calls Try.prog 49 #[.agg #[.int .i64 s.u, .int .i64 s.q, .int .i64 s.s, .int .i64 s.n, .int .i64 s.e]] w fun e w' => e = .returned (.bool (Or.fit s)) ∧ Below w.heap.size w w' := by
  go_enter Try.func49, Try.ntmps49
  go_wp2_with (first | (go_at_call 52; refine (vu_any _ _).mono ?_; rintro e w' ⟨rfl, rfl⟩) | (go_at_call 56; refine (vn_any _ _).mono ?_; rintro e w' ⟨rfl, rfl⟩) | (go_at_call 55; refine (rg_any _ _ _).mono ?_; rintro e w' ⟨rfl, rfl⟩))
  all_goals
    go_ret
    exact ⟨ret_bool (by simp_all [Or.fit, Or.st] <;> (intros; exfalso; omega)), (Below.refl _ _).alloc (Nat.le_refl _) _⟩

end Go.Proofs.Ytodhpooddmeghaa
