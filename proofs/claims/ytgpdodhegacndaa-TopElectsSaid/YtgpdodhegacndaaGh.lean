/- Equality of structs whose fields are integers. No program is named here. -/
import Derived.Test.YtgpdodhegacndaaGg
import Derived.ChangeKeysEq
namespace Go.Proofs.Ytgpdodhegacndaa
set_option linter.unusedSimpArgs false
set_option linter.unusedVariables false
open Go.RowKit
namespace Fw
variable {ds : List Deferred}
/-- the fields of a struct of integers, one cell each, in their order -/
def intFields (P : Program) : Nat → List Field → Bool
  | _, [] => true
  | j, f :: fs => f.name != "_" && ((match P.underlying f.type with | some (.int .i64) => true | _ => false) && (f.offset == j && intFields P (j + 1) fs))
theorem eqFields_ints {P : Program} (w : World) (d : Nat) (xs ys : Array Value) : ∀ (fs : List Field) (j : Nat) (as bs : List Int), intFields P j fs = true → as.length = fs.length → bs.length = fs.length →
    (∀ i, i < fs.length → xs[j + i]? = (as[i]?).map (.int .i64)) → (∀ i, i < fs.length → ys[j + i]? = (bs[i]?).map (.int .i64)) → (Op.eqFields (d + 1) xs ys fs).run P w = .ok (decide (as = bs)) w
  | [], j, as, bs, h, ha, hb, hx, hy => by
    have h1 := List.eq_nil_of_length_eq_zero ha
    have h2 := List.eq_nil_of_length_eq_zero hb
    subst h1 h2
    simp [Op.eqFields]
  | f :: fs, j, as, bs, h, ha, hb, hx, hy => by
    match as, ha with
    | a :: as, ha =>
      match bs, hb with
      | b :: bs, hb =>
        unfold intFields at h
        simp only [Bool.and_eq_true, bne_iff_ne, ne_eq, beq_iff_eq] at h
        obtain ⟨hn, ht, ho, hr⟩ := h
        have hu : P.underlying f.type = some (.int .i64) := by
          revert ht
          cases hu : P.underlying f.type with
          | none => simp
          | some u => cases u <;> simp; rename_i k; cases k <;> simp
        have hp : P.plainKey f.type = true := by unfold Program.plainKey; rw [hu]
        have hx0 : xs[f.offset]? = some (.int .i64 a) := by have := hx 0 (by simp); rw [ho]; simpa using this
        have hy0 : ys[f.offset]? = some (.int .i64 b) := by have := hy 0 (by simp); rw [ho]; simpa using this
        have ih := eqFields_ints w d xs ys fs (j + 1) as bs hr (by simpa using ha) (by simpa using hb)
          (fun i hi => by have := hx (i + 1) (by simp; exact hi); rw [show j + 1 + i = j + (i + 1) by omega]; simpa using this)
          (fun i hi => by have := hy (i + 1) (by simp; exact hi); rw [show j + 1 + i = j + (i + 1) by omega]; simpa using this)
        rw [Op.eqFields, if_pos hn]
        simp only [Sem.run_bind, run_part_plain w hp hx0, run_part_plain w hp hy0, Result.andThen_ok, run_equalIn_int w d f.type .i64 .i64 a b hu]
        by_cases e : a = b
        · subst e; simp [ih]
        · simp [e]
structure EqT (P : Program) (t : TypeId) (n : Nat) : Prop where
  st : P.underlying t = some (.struct (P.fieldsOf t))
  held : P.stoodInHeld t = false
  guard : P.eqGuardType P.depth t = false
  fs : intFields P 0 (P.fieldsOf t).toList = true
  len : (P.fieldsOf t).toList.length = n
theorem equalIn_ints {P : Program} {t : TypeId} {n : Nat} (h : EqT P t n) (as bs : List Int) (ha : as.length = n) (hb : bs.length = n) (w : World) :
    (Op.equalIn 10000 t (.agg (as.map (Value.int .i64)).toArray) (.agg (bs.map (Value.int .i64)).toArray)).run P w = .ok (decide (as = bs)) w := by
  rw [show (10000 : Nat) = 9999 + 1 from rfl, run_equalIn_agg w 9999 t _ _ h.st h.held]
  exact eqFields_ints w 9998 _ _ _ 0 as bs h.fs (by rw [h.len]; exact ha) (by rw [h.len]; exact hb) (fun i _ => by simp) (fun i _ => by simp)
section
variable {P : Program} {t : TypeId} {n : Nat} {x y : Operand}
theorem b_eqlA (h : EqT P t n) (as bs : List Int) (ha : as.length = n) (hb : bs.length = n) : Bin P .eql t x y (.agg (as.map (Value.int .i64)).toArray) (.agg (bs.map (Value.int .i64)).toArray) (.bool (decide (as = bs))) := fun w => by
  rw [Sem.run_bind, run_eqGuard_agg w .eql t x y _ _ h.guard]
  simp only [Result.andThen_ok]
  rw [run_eql_struct, equalIn_ints h as bs ha hb]
  rfl
theorem b_neqA (h : EqT P t n) (as bs : List Int) (ha : as.length = n) (hb : bs.length = n) : Bin P .neq t x y (.agg (as.map (Value.int .i64)).toArray) (.agg (bs.map (Value.int .i64)).toArray) (.bool (decide (as ≠ bs))) := fun w => by
  rw [Sem.run_bind, run_eqGuard_agg w .neq t x y _ _ h.guard]
  simp only [Result.andThen_ok]
  rw [run_neq_struct, equalIn_ints h as bs ha hb]
  simp only [Result.andThen_ok]
  by_cases e : as = bs <;> simp [e]
end
end Fw
end Go.Proofs.Ytgpdodhegacndaa
