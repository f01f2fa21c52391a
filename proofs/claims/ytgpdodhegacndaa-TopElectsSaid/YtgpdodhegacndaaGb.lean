/- The laws of the single operations. No program is named here. -/
import Derived.Test.YtgpdodhegacndaaGa
import Derived.Great.BuildSlice
import Derived.Laws.Slices
import Derived.Laws.Strings
import Derived.Laws.Tables
import Derived.Laws.CopyRow
namespace Go.Proofs.Ytgpdodhegacndaa
set_option linter.unusedSimpArgs false
set_option linter.unusedVariables false
open Go.RowKit
namespace Fw
variable {ds : List Deferred}
section
variable {P : Program}
def ScalT (P : Program) (t : TypeId) : Prop := ∀ w, (isAgg t).run P w = .ok false w
def SizeT (P : Program) (t : TypeId) (m : Nat) : Prop := ∀ w, (sizeOf t).run P w = .ok m w
def AggT (P : Program) (t : TypeId) (m : Nat) : Prop := (∀ w, (isAgg t).run P w = .ok true w) ∧ SizeT P t m
def ZeroT (P : Program) (t : TypeId) (z : Value) : Prop := ∀ w, (zeroValue t).run P w = .ok z w
def FieldT (P : Program) (s : TypeId) (k off : Nat) : Prop := ∀ a w, (Instr.fieldAt s (.pointer (some a)) k).run P w = .ok (.pointer (some (a.add off))) w
def isAggD : TypeDesc → Bool
  | .struct _ | .array _ _ => true
  | _ => false
theorem ScalT.of {t : TypeId} {d : TypeDesc} (h : P.underlying t = some d) (hd : isAggD d = false) : ScalT P t := fun w => by
  unfold isAgg; simp only [Sem.run_bind, run_underlying h, Result.andThen_ok]; cases d <;> first | rfl | cases hd
theorem SizeT.of {t : TypeId} {m : Nat} (h : (P.info? t).map (·.size) = some m) : SizeT P t m := fun w => by
  cases hi : P.info? t with
  | none => rw [hi] at h; cases h
  | some i => rw [hi] at h; injection h with h; subst h; simp [sizeOf, typeInfo, hi]
theorem AggT.of {t : TypeId} {d : TypeDesc} {m : Nat} (h : P.underlying t = some d) (hd : isAggD d = true) (hm : (P.info? t).map (·.size) = some m) : AggT P t m := ⟨fun w => by
  unfold isAgg; simp only [Sem.run_bind, run_underlying h, Result.andThen_ok]; (cases d <;> first | rfl | cases hd), SizeT.of hm⟩
theorem ZeroT.of {t : TypeId} {z : Value} (h : (P.info? t).bind (·.zero) = some z) : ZeroT P t z := fun w => by
  cases hi : P.info? t with
  | none => rw [hi] at h; cases h
  | some i => rw [hi] at h; simp only [Option.bind_some] at h; simp [zeroValue, typeInfo, hi, h]
theorem FieldT.of {s : TypeId} {fields : Array Field} {k m : Nat} {f : Field} (hu : P.underlying s = some (.struct fields)) (hf : fields[k]? = some f) (hs : (P.info? f.type).map (·.size) = some (m + 1)) {off : Nat} (ho : f.offset = off) : FieldT P s k off := fun a w => by
  subst ho
  unfold Instr.fieldAt
  simp only [Sem.run_bind, run_underlying hu, Result.andThen_ok, hf]
  have := SizeT.of hs w
  simp [Instr.sureAddr, fieldPlace, this]
theorem add_flat (b o i : Nat) : (⟨b, o, none⟩ : Addr).add i = ⟨b, o + i, none⟩ := by
  unfold Addr.add; split
  · rename_i h; subst h; rfl
  · rfl
end

section
variable {P : Program} {n : Nat} {f : Fr} {C : World → Prop} {ty t : TypeId} {x y z c : Operand} {v u : Value}
theorem val_move (hx : ev f x = some v) : Val P n f C (.move x) ty v := fun _ _ _ _ a w ha _ => by
  show (Sem.run P (pure (Next.value (a.eval x))) w) = _; rw [ha.eval hx]; rfl
theorem val_assign (hx : ev f x = some v) : Val P n f C (.assign x) ty v := fun _ _ _ _ a w ha _ => by
  show (Sem.run P (pure (Next.value (a.eval x))) w) = _; rw [ha.eval hx]; rfl
theorem val_pickT (hc : ev f c = some (.bool true)) (hx : ev f x = some v) : Val P n f C (.pick c x y) ty v := fun _ _ _ _ a w ha _ => by
  unfold execOp; simp only [ha.eval hc, ha.eval hx]; simp [asBool]
theorem val_pickF (hc : ev f c = some (.bool false)) (hx : ev f y = some v) : Val P n f C (.pick c x y) ty v := fun _ _ _ _ a w ha _ => by
  unfold execOp; simp only [ha.eval hc, ha.eval hx]; simp [asBool]
theorem val_fieldAddr {s : TypeId} {k off b o o' : Nat} (hF : FieldT P s k off) (hx : ev f x = some (.pointer (some ⟨b, o, none⟩))) (ho : o + off = o') : Val P n f C (.fieldAddr s x k) ty (.pointer (some ⟨b, o', none⟩)) := fun _ _ _ _ a w ha _ => by
  unfold execOp; simp only [ha.eval hx]
  have h := hF ⟨b, o, none⟩ w
  rw [add_flat, ho] at h
  simp [h]
theorem val_load {t : TypeId} {ad : Addr} (ht : ScalT P t) (hx : ev f x = some (.pointer (some ad))) (hc : ∀ w, C w → w.cell? ad = some v) : Val P n f C (.load t x) ty v := fun _ _ _ _ a w ha hw => by
  unfold execOp; simp only [ha.eval hx]
  simp [Instr.loadAt, Instr.sureAddr, loadVar, ht w, hc w hw]
theorem run_loadRd {w : World} {ad : Addr} {cs : List Value} (h : Rd w (some ad) cs) : (loadCells ad cs.length).run P w = .ok cs.toArray w :=
  run_loadCells_list (P := P) w ad cs fun j v hj => by obtain ⟨ad', e, hc⟩ := h j v hj; injection e with e; subst e; exact hc
theorem val_loadA {t : TypeId} {ad : Addr} {cs : List Value} {m : Nat} (ht : AggT P t m) (hx : ev f x = some (.pointer (some ad))) (hc : ∀ w, C w → Rd w (some ad) cs) (hm : cs.length = m) : Val P n f C (.load t x) ty (.agg cs.toArray) := fun _ _ _ _ a w ha hw => by
  subst hm
  unfold execOp; simp only [ha.eval hx]
  simp [Instr.loadAt, Instr.sureAddr, loadVar, ht.1 w, ht.2 w, run_loadRd (hc w hw)]
theorem val_extract {vs : Array Value} {i : Nat} (hx : ev f x = some (.tuple vs)) (hv : vs[i]? = some v) : Val P n f C (.extract x i) ty v := fun _ _ _ _ a w ha _ => by
  unfold execOp; simp only [ha.eval hx]; simp [Instr.extract, hv]
theorem val_index {e : TypeId} {s len cap b o m : Nat} {ad : Addr} {k : IntKind} {i : Int} (ht : P.underlying t = some (.slice e)) (hs : SizeT P e s) (hx : ev f x = some (.slice (some ad) len cap)) (hi : ev f y = some (.int k i)) (hm : i = (m : Nat)) (hlt : m < len)
    (ha : ad.add (m * s) = ⟨b, o, none⟩) : Val P n f C (.indexAddr t x y) ty (.pointer (some ⟨b, o, none⟩)) := fun _ _ _ _ a w hh _ => by
  subst hm
  unfold execOp; simp only [hh.eval hx, hh.eval hi]
  simp [Instr.indexAt, asIntOf, run_underlying ht, hs w, hlt, ha]
theorem val_len {c : Nat} {A : Option Addr} {l : Nat} {e : TypeId} (ht : P.underlying t = some (.slice e)) (hx : ev f x = some (.slice A l c)) : Val P n f C (.call ⟨.builtin .len, #[x], #[t]⟩) ty (.int .i64 (l : Nat)) := fun _ _ _ _ a w ha _ => by
  unfold execOp; simp only [resolve, Sem.run_bind, Sem.run_pure, Result.andThen_ok, List.map_toArray, List.map_cons, List.map_nil, ha.eval hx, invoke, builtin]
  simp [Builtin.len_, run_underlying ht, goInt]
theorem val_lenS {s : ByteArray} (ht : P.underlying t = some .string) (hx : ev f x = some (.string s)) : Val P n f C (.call ⟨.builtin .len, #[x], #[t]⟩) ty (.int .i64 (s.size : Nat)) := fun _ _ _ _ a w ha _ => by
  unfold execOp; simp only [resolve, Sem.run_bind, Sem.run_pure, Result.andThen_ok, List.map_toArray, List.map_cons, List.map_nil, ha.eval hx, invoke, builtin]
  simp [Builtin.len_, run_underlying ht, goInt]
theorem val_not {b : Bool} {xt : TypeId} (hx : ev f x = some (.bool b)) : Val P n f C (.unOp .not xt x) ty (.bool (!b)) := fun _ _ _ _ a w ha _ => by
  unfold execOp; simp only [ha.eval hx]; simp [Op.unary]
theorem val_neg {k : IntKind} {m : Int} {xt : TypeId} (hx : ev f x = some (.int k m)) : Val P n f C (.unOp .neg xt x) ty (.int k (k.wrap (0 - m))) := fun _ _ _ _ a w ha _ => by
  unfold execOp; simp only [ha.eval hx]; simp [Op.unary, Op.intArith]
theorem val_conv {k k' : IntKind} {m m' : Int} {src dst : TypeId} {d : TypeDesc} (hs : P.underlying src = some d) (hd : P.underlying dst = some (.int k')) (hx : ev f x = some (.int k m)) (hw : k'.wrap m = m') : Val P n f C (.convert src dst x) ty (.int k' m') := fun _ _ _ _ a w ha _ => by
  subst hw
  unfold execOp; simp only [ha.eval hx]
  cases d <;> simp [convert, run_underlying hs, run_underlying hd, Conv.intToInt]
theorem val_nil {p : Addr} (hx : ev f x = some (.pointer (some p))) : Val P n f C (.nilCheck x) ty (.pointer (some p)) := fun _ _ _ _ a w ha _ => by
  unfold execOp; simp only [ha.eval hx]; rfl
theorem val_build {parts : Array (Nat × Operand)} {ps : List (Nat × Value)} {cs : Array Value} (hp : parts.toList.map (fun p => (p.1, ev f p.2)) = ps.map (fun p => (p.1, some p.2))) (hb : P.built t ps = some cs) : Val P n f C (.build t parts) ty (.agg cs) := fun _ _ _ _ a w ha _ => by
  have e : (parts.map fun (i, x) => (i, a.eval x)) = ps.toArray := by
    obtain ⟨l⟩ := parts
    simp only [List.map_toArray]
    congr 1
    induction l generalizing ps with
    | nil => cases ps with
      | nil => rfl
      | cons p ps => simp at hp
    | cons q l ih => cases ps with
      | nil => simp at hp
      | cons p ps =>
        simp only [List.map_cons, List.cons.injEq, Prod.mk.injEq] at hp ⊢
        exact ⟨Prod.ext hp.1.1 (ha.eval hp.1.2), by
          have key : ∀ (l : List (Nat × Operand)) (ps : List (Nat × Value)), l.map (fun p => (p.1, ev f p.2)) = ps.map (fun p => (p.1, some p.2)) → l.map (fun p => (p.1, a.eval p.2)) = ps := by
            intro l
            induction l with
            | nil => intro ps h; cases ps with
              | nil => rfl
              | cons _ _ => simp at h
            | cons q l ih => intro ps h; cases ps with
              | nil => simp at h
              | cons p ps =>
                simp only [List.map_cons, List.cons.injEq, Prod.mk.injEq] at h ⊢
                exact ⟨Prod.ext h.1.1 (ha.eval h.1.2), ih ps h.2⟩
          exact key l ps hp.2⟩
  unfold execOp
  simp only [e]
  have := run_build (P := P) w t ps.toArray cs (by simpa using hb)
  simp [this]

/-! ### two operands -/
def Bin (P : Program) (op : BinOp) (t : TypeId) (x y : Operand) (a b v : Value) : Prop := ∀ w, (do eqGuard op t x y a b; binOp op t a b : Sem Value).run P w = .ok v w
theorem val_bin {op : BinOp} {xt yt : TypeId} {a b : Value} (hx : ev f x = some a) (hy : ev f y = some b) (hr : Bin P op xt x y a b v) : Val P n f C (.binOp op xt x y yt) ty v := fun _ _ _ _ ac w ha _ => by
  unfold execOp
  simp only [ha.eval hx, ha.eval hy]
  have := hr w
  rw [Sem.run_bind, this]; simp
variable {k yk : IntKind} {a b : Int}
theorem guard_int (op : BinOp) (a b : Int) (k k' : IntKind) (w : World) : (eqGuard op t x y (.int k a) (.int k' b)).run P w = .ok () w := by
  unfold eqGuard; cases op <;> rfl
theorem bin_int {op : BinOp} {w : World} (h : (binOp op t (.int k a) (.int yk b)).run P w = .ok v w) : (do eqGuard op t x y (.int k a) (.int yk b); binOp op t (.int k a) (.int yk b) : Sem Value).run P w = .ok v w := by
  rw [Sem.run_bind, guard_int]; exact h
theorem b_add {r : Int} (h : k.wrap (a + b) = r) : Bin P .add t x y (.int k a) (.int k b) (.int k r) := fun w => bin_int (by simp [binOp, Op.intArith, h])
theorem b_sub {r : Int} (h : k.wrap (a - b) = r) : Bin P .sub t x y (.int k a) (.int k b) (.int k r) := fun w => bin_int (by simp [binOp, Op.intArith, h])
theorem b_mul {r : Int} (h : k.wrap (a * b) = r) : Bin P .mul t x y (.int k a) (.int k b) (.int k r) := fun w => bin_int (by simp [binOp, Op.intArith, h])
theorem b_quo {r : Int} (hb : b ≠ 0) (h : k.wrap (a.tdiv b) = r) : Bin P .quo t x y (.int k a) (.int k b) (.int k r) := fun w => bin_int (by simp [binOp, Op.intDiv, h, hb])
theorem b_rem {r : Int} (hb : b ≠ 0) (h : a.tmod b = r) : Bin P .rem t x y (.int k a) (.int k b) (.int k r) := fun w => bin_int (by simp [binOp, Op.intDiv, h, hb])
theorem b_bits {op : BinOp} {r : Int} (h : ∀ w, (Op.intBits op k a b).run P w = .ok (.int k r) w) (ho : op = .and ∨ op = .or ∨ op = .xor ∨ op = .andNot) : Bin P op t x y (.int k a) (.int k b) (.int k r) := fun w => bin_int (by
  rcases ho with rfl | rfl | rfl | rfl <;> simpa [binOp] using h w)
theorem b_shl {r : Int} (hb : 0 ≤ b) (h : k.wrap (a * 2 ^ min b.toNat k.bits) = r) : Bin P .shl t x y (.int k a) (.int yk b) (.int k r) := fun w => bin_int (by
  have : ¬ b < 0 := by omega
  simp [binOp, Op.shift, this, h])
theorem b_shr {r : Int} (hb : 0 ≤ b) (h : a.fdiv (2 ^ min b.toNat k.bits) = r) : Bin P .shr t x y (.int k a) (.int yk b) (.int k r) := fun w => bin_int (by
  have : ¬ b < 0 := by omega
  simp [binOp, Op.shift, this, h])
theorem b_lss : Bin P .lss t x y (.int k a) (.int k b) (.bool (decide (a < b))) := fun w => bin_int (by simp [binOp, Op.intCmp])
theorem b_leq : Bin P .leq t x y (.int k a) (.int k b) (.bool (decide (a ≤ b))) := fun w => bin_int (by simp [binOp, Op.intCmp])
theorem b_gtr : Bin P .gtr t x y (.int k a) (.int k b) (.bool (decide (b < a))) := fun w => bin_int (by simp [binOp, Op.intCmp])
theorem b_geq : Bin P .geq t x y (.int k a) (.int k b) (.bool (decide (b ≤ a))) := fun w => bin_int (by simp [binOp, Op.intCmp])
theorem b_eql : Bin P .eql t x y (.int k a) (.int k b) (.bool (decide (a = b))) := fun w => bin_int (by simp [binOp, Op.intCmp]; rfl)
theorem b_neq : Bin P .neq t x y (.int k a) (.int k b) (.bool (decide (a ≠ b))) := fun w => bin_int (by simp [binOp, Op.intCmp]; rfl)
theorem b_eqlB {a b : Bool} (h : P.underlying t = some .bool) : Bin P .eql t x y (.bool a) (.bool b) (.bool (decide (a = b))) := fun w => by
  have g : (eqGuard .eql t x y (.bool a) (.bool b)).run P w = .ok () w := rfl
  rw [Sem.run_bind, g]; simp only [Result.andThen_ok, run_eql_bool w t a b h]; cases a <;> cases b <;> rfl
theorem b_neqB {a b : Bool} (h : P.underlying t = some .bool) : Bin P .neq t x y (.bool a) (.bool b) (.bool (decide (a ≠ b))) := fun w => by
  have g : (eqGuard .neq t x y (.bool a) (.bool b)).run P w = .ok () w := rfl
  rw [Sem.run_bind, g]; simp only [Result.andThen_ok, run_neq_bool w t a b h]; cases a <;> cases b <;> rfl
theorem b_eqlS {a b : ByteArray} : Bin P .eql t x y (.string a) (.string b) (.bool (decide (a = b))) := fun w => by
  have g : (eqGuard .eql t x y (.string a) (.string b)).run P w = .ok () w := rfl
  have e : (a.toList == b.toList) = decide (a = b) := by
    by_cases h : a = b
    · subst h; simp
    · rw [decide_eq_false h, beq_eq_false_iff_ne]; intro h2; exact h (ByteArray.ext (Array.toList_inj.mp (by simpa [ByteArray.toList_eq] using h2)))
  rw [Sem.run_bind, g]; simp only [Result.andThen_ok, binOp_string_eql, Sem.run_pure, e]
theorem b_nilP {p : Option Addr} {e : TypeId} (h : P.underlying t = some (.pointer e)) : Bin P .eql t x y (.pointer p) (.pointer none) (.bool (p.isNone)) := fun w => by
  have g : (eqGuard .eql t x y (.pointer p) (.pointer none)).run P w = .ok () w := rfl
  have hp : P.underlying t = some (.pointer (P.pointee t)) := by rw [h]; simp [Program.pointee, h]
  rw [Sem.run_bind, g]; simp only [Result.andThen_ok, run_eql_pointer_nil w t p hp]
theorem b_nnilP {p : Option Addr} {e : TypeId} (h : P.underlying t = some (.pointer e)) : Bin P .neq t x y (.pointer p) (.pointer none) (.bool (!p.isNone)) := fun w => by
  have g : (eqGuard .neq t x y (.pointer p) (.pointer none)).run P w = .ok () w := rfl
  have hp : P.underlying t = some (.pointer (P.pointee t)) := by rw [h]; simp [Program.pointee, h]
  rw [Sem.run_bind, g]; simp only [Result.andThen_ok, run_neq_pointer_nil w t p hp]
end
theorem i64_ok {r : Int} (h : -9223372036854775808 ≤ r ∧ r ≤ 9223372036854775807) : IntKind.i64.wrap r = r := IntWalk.i64_in _ h
theorem u64_ok {r : Int} (h : 0 ≤ r ∧ r ≤ 18446744073709551615) : IntKind.u64.wrap r = r := IntWalk.u64_in _ h
end Fw
end Go.Proofs.Ytgpdodhegacndaa
