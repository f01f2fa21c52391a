/- Layer 49: what the laws on changed and on appended records say, in plain lists. -/
import Derived.Test.YtgmhcfhmpjpomaaHiR
import Derived.Test.YtgmhcfhmpjpomaaHiK
namespace Go.Proofs.Ytgmhcfhmpjpomaa
set_option linter.unusedSimpArgs false
set_option linter.unusedVariables false
open Go.RowKit
namespace Hi
theorem errA_zero {l : List V} {v : V} (h : errA l v = 0) : (rg v.t && rg v.e) = true ∧ ∀ x, l.getLast? = some x → ¬ (v.t < x.t ∨ v.e < x.e) := by
  unfold errA at h
  cases hr : (rg v.t && rg v.e) with
  | false => rw [hr] at h; simp at h
  | true =>
    rw [hr] at h
    refine ⟨rfl, fun x hx hh => ?_⟩
    rw [hx] at h
    simp only [Bool.not_true, Bool.false_eq_true, if_false] at h
    rw [if_pos hh] at h
    simp at h
theorem getD_app {l m : List V} {k : Nat} (h : k < l.length) : (l ++ m).getD k zero = l.getD k zero := by
  rw [List.getD_eq_getElem?_getD, List.getD_eq_getElem?_getD, List.getElem?_append_left h]
theorem prevAt_app {l m : List V} {k : Nat} (h : k ≤ l.length) : prevAt (l ++ m) k = prevAt l k := by
  cases k with
  | zero => rfl
  | succ k => show ((l ++ m).getD k zero).s = (l.getD k zero).s; rw [getD_app (by omega)]
theorem prevAt_len (l : List V) : prevAt l l.length = prevS l := by
  cases h : l.length with
  | zero => obtain rfl := List.eq_nil_of_length_eq_zero h; rfl
  | succ n =>
    show (l.getD n zero).s = prevS l
    unfold prevS
    rw [last_at h, List.getD_eq_getElem?_getD, List.getElem?_eq_getElem (by omega)]; rfl
theorem badAt_app {l m : List V} {k : Nat} (h : k < l.length) : badAt (l ++ m) k = badAt l k := by
  unfold badAt
  rw [getD_app h, getD_app (show k - 1 < l.length by omega), prevAt_app (by omega)]
def Vld (l : List V) : Prop := ∀ k, k < l.length → badAt l k = false
theorem Vld.app {l : List V} (h : Vld l) (v : V) : Vld (appL l v) := by
  unfold appL
  split
  · exact h
  · rename_i hn
    have hn1 : errA l v = 0 := Classical.byContradiction fun e => hn (.inl e)
    have hn2 : dup l v = false := by cases e : dup l v; rfl; exact absurd (.inr e) hn
    obtain ⟨hr, hl⟩ := errA_zero hn1
    intro k hk
    rw [List.length_append, List.length_singleton] at hk
    by_cases hkl : k < l.length
    · rw [badAt_app hkl]; exact h k hkl
    · obtain rfl : k = l.length := by omega
      unfold badAt
      have hx : (l ++ [sealed l v]).getD l.length zero = sealed l v := by
        rw [List.getD_eq_getElem?_getD, List.getElem?_append_right (Nat.le_refl _)]; simp
      rw [hx, prevAt_app (Nat.le_refl _), prevAt_len]
      have h1 : badV (prevS l) (sealed l v) = false := by
        unfold badV sealed
        simp only [hr, Bool.not_true, Bool.false_or]
        show (sl (prevS l) v != sl (prevS l) v) = false
        simp
      rw [h1, Bool.false_or]
      cases hz : l.length with
      | zero => rfl
      | succ n =>
        have hg : (l ++ [sealed l v]).getD (n + 1 - 1) zero = l[n]'(by omega) := by
          rw [show n + 1 - 1 = n by omega, getD_app (by omega), List.getD_eq_getElem?_getD, List.getElem?_eq_getElem (by omega)]; rfl
        rw [hg]
        have h2 := hl _ (last_at hz)
        have h3 : same (l[n]'(by omega)) v = false := by unfold dup at hn2; rw [last_at hz] at hn2; exact hn2
        unfold badP
        rw [show decide ((sealed l v).t < (l[n]'(by omega)).t ∨ (sealed l v).e < (l[n]'(by omega)).e) = false from decide_eq_false h2, show same (l[n]'(by omega)) (sealed l v) = false from h3]
        simp
theorem Vld.fold {m : List V} : ∀ (l : List V), Vld m → Vld (l.foldl appL m)
  | [], h => h
  | v :: l, h => Vld.fold l (h.app v)
theorem Vld.run (l : List V) : Vld (runL l) := Vld.fold l (fun k hk => by simp at hk)
theorem Vld.chk {l : List V} (h : Vld l) : chk l = -1 := chk_end h
/-- one record is changed so that it does not fit what stands ahead of it -/
theorem chk_set {l : List V} (h : Vld l) {i : Nat} (hi : i < l.length) {v : V} (hb : badV (prevAt l i) v = true) : chk (l.set i v) = i := by
  have gd : ∀ j, j ≠ i → (l.set i v).getD j zero = l.getD j zero := fun j hj => by
    rw [List.getD_eq_getElem?_getD, List.getD_eq_getElem?_getD, List.getElem?_set_ne (Ne.symm hj)]
  have pv : ∀ j, j ≤ i → prevAt (l.set i v) j = prevAt l j := fun j hj => by
    cases j with
    | zero => rfl
    | succ j => show ((l.set i v).getD j zero).s = (l.getD j zero).s; rw [gd j (by omega)]
  refine chk_hit (by simpa using hi) ?_ fun j hj => ?_
  · unfold badAt
    have hg : (l.set i v).getD i zero = v := by rw [List.getD_eq_getElem?_getD, List.getElem?_set_self hi]; rfl
    rw [hg, pv i (Nat.le_refl _), hb]; rfl
  · have := h j (by omega)
    unfold badAt at this ⊢
    rw [gd j (by omega), pv j (by omega)]
    cases j with
    | zero => exact this
    | succ j => rw [show j + 1 - 1 = j by omega] at this ⊢; rw [gd j (by omega)]; exact this
theorem apart_set {l : List V} {i : Nat} (hi : i < l.length) {v : V} (hv : v ≠ l[i]) : apart (l.set i v) l = i := by
  refine apart_hit i _ _ (fun j hj => List.getElem?_set_ne (by omega)) (.inr hi) ?_
  rw [List.getElem?_set_self hi, List.getElem?_eq_getElem hi]
  exact fun e => hv (Option.some.inj e)

/-! ### one byte of a word -/
theorem byte_of (b j k : Nat) (hb : b < 256) (hj : j < 8) (hk : k < 8) : b * 2 ^ (8 * j) / 2 ^ (8 * k) % 256 = if k = j then b else 0 := by
  have hj' : j = 0 ∨ j = 1 ∨ j = 2 ∨ j = 3 ∨ j = 4 ∨ j = 5 ∨ j = 6 ∨ j = 7 := by omega
  have hk' : k = 0 ∨ k = 1 ∨ k = 2 ∨ k = 3 ∨ k = 4 ∨ k = 5 ∨ k = 6 ∨ k = 7 := by omega
  rcases hj' with rfl | rfl | rfl | rfl | rfl | rfl | rfl | rfl <;> rcases hk' with rfl | rfl | rfl | rfl | rfl | rfl | rfl | rfl <;> simp <;> omega
theorem xor_byte (X M k : Nat) : (X ^^^ M) / 2 ^ (8 * k) % 256 = (X / 2 ^ (8 * k) % 256) ^^^ (M / 2 ^ (8 * k) % 256) := by
  rw [← Nat.shiftRight_eq_div_pow, Nat.shiftRight_xor_distrib, Nat.shiftRight_eq_div_pow, Nat.shiftRight_eq_div_pow]
  exact Nat.xor_mod_two_pow (n := 8)
theorem bytes_nat (X : Nat) (k : Nat) (hk : k < 8) : (Ck.bytesI (X : Int))[k]? = some ((X / 2 ^ (8 * k) % 256 : Nat) : Int) := by
  unfold Ck.bytesI Ck.byteI
  simp only [List.getElem?_map, List.getElem?_range hk, Option.map_some]
  congr 1
  try (push_cast; rfl)
theorem bytes_xor (X b j : Nat) (hb : b < 256) (hj : j < 8) : Ck.bytesI ((X ^^^ (b * 2 ^ (8 * j)) : Nat) : Int) = (Ck.bytesI (X : Int)).set j (((X / 2 ^ (8 * j) % 256) ^^^ b : Nat) : Int) := by
  apply List.ext_getElem?
  intro k
  by_cases hk : k < 8
  · rw [bytes_nat _ _ hk, xor_byte, byte_of b j k hb hj hk]
    by_cases e : k = j
    · subst e; rw [if_pos rfl, List.getElem?_set_self (by rw [Ck.bytesI_length]; exact hk)]
    · rw [if_neg e, Nat.xor_zero, List.getElem?_set_ne (Ne.symm e), bytes_nat _ _ hk]
  · rw [List.getElem?_eq_none (by rw [Ck.bytesI_length]; omega), List.getElem?_eq_none (by rw [List.length_set, Ck.bytesI_length]; omega)]
theorem xor_ne' {x b : Nat} (hb : 0 < b) : x ^^^ b ≠ x := fun h => by
  have : x ^^^ b = x ^^^ 0 := by rw [Nat.xor_zero]; exact h
  have := Ck.xor_l this
  omega
theorem xor_lt8 {x b : Nat} (hx : x < 256) (hb : b < 256) : x ^^^ b < 256 := Nat.xor_lt_two_pow (n := 8) hx hb
theorem init_u64 : Ck.U64 Ck.init := by unfold Ck.init Ck.U64; omega
theorem ints_ne (A B : List Int) (x x' : Int) (b j : Nat) (hb : 0 < b ∧ b < 256) (hj : j < 8) (h : IntKind.u64.wrap x' = (((IntKind.u64.wrap x).toNat ^^^ (b * 2 ^ (8 * j)) : Nat) : Int)) : Ck.intsI (A ++ x' :: B) ≠ Ck.intsI (A ++ x :: B) := by
  rw [Ck.intsI_eq, Ck.intsI_eq]
  have e : ∀ y, Ck.wordsI (A ++ y :: B) = Ck.wordsI A ++ (Ck.bytesI (IntKind.u64.wrap y) ++ Ck.wordsI B) := fun y => by simp [Ck.wordsI]
  rw [e, e, Ck.moreI_append, Ck.moreI_append, Ck.moreI_append, Ck.moreI_append]
  intro hh
  have hu := Ck.moreI_bd (Ck.wordsI A) Ck.init init_u64
  have hh := Ck.moreI_inj _ (Ck.wordsI_bts B) (Ck.moreI_bd _ _ hu) (Ck.moreI_bd _ _ hu) hh
  have hw := Ck.wrap_U64 x
  obtain ⟨X, hX⟩ : ∃ X : Nat, IntKind.u64.wrap x = (X : Int) := ⟨(IntKind.u64.wrap x).toNat, by have := hw.1; omega⟩
  rw [h, hX, Int.toNat_natCast, bytes_xor X b j hb.2 hj] at hh
  have hc : (Ck.bytesI (X : Int))[j]'(by rw [Ck.bytesI_length]; exact hj) = ((X / 2 ^ (8 * j) % 256 : Nat) : Int) := by
    have := bytes_nat X j hj
    rw [List.getElem?_eq_getElem (by rw [Ck.bytesI_length]; exact hj)] at this
    exact Option.some.inj this
  refine Ck.moreI_set (Ck.bytesI (X : Int)) j _ (by rw [Ck.bytesI_length]; exact hj) (Ck.bytesI_bts _) ⟨by omega, ?_⟩ ?_ hu hh
  · have := xor_lt8 (x := X / 2 ^ (8 * j) % 256) (Nat.mod_lt _ (by decide)) hb.2; omega
  · rw [hc]; intro e; exact xor_ne' hb.1 (Int.ofNat.inj e)
theorem mask_lt {b j : Nat} (hb : b < 256) (hj : j < 8) : b * 2 ^ (8 * j) < 18446744073709551616 := by
  have hj' : j = 0 ∨ j = 1 ∨ j = 2 ∨ j = 3 ∨ j = 4 ∨ j = 5 ∨ j = 6 ∨ j = 7 := by omega
  rcases hj' with rfl | rfl | rfl | rfl | rfl | rfl | rfl | rfl <;> simp <;> omega
theorem wrap_u_i (n : Int) : IntKind.u64.wrap (IntKind.i64.wrap n) = IntKind.u64.wrap n := by rw [IntKind.wrap_i64, IntKind.wrap_u64, IntKind.wrap_u64]; omega
theorem wrap_u_nat {n : Nat} (h : n < 18446744073709551616) : IntKind.u64.wrap (n : Int) = n := by rw [IntKind.wrap_u64]; omega
theorem ofInt_nat (n : Int) : (BitVec.ofInt 64 n).toNat = (IntKind.u64.wrap n).toNat := by
  rw [BitVec.toNat_ofInt, IntKind.wrap_u64]; simp
theorem xor_i64 (t : Int) {M : Nat} (hM : M < 18446744073709551616) : IntKind.u64.wrap (bits .xor .i64 t (IntKind.i64.wrap (M : Int))) = (((IntKind.u64.wrap t).toNat ^^^ M : Nat) : Int) := by
  show IntKind.u64.wrap (IntKind.i64.wrap ((BitVec.ofInt 64 t ^^^ BitVec.ofInt 64 (IntKind.i64.wrap (M : Int))).toNat : Int)) = _
  rw [wrap_u_i, BitVec.toNat_xor, ofInt_nat, ofInt_nat, wrap_u_i, wrap_u_nat hM, Int.toNat_natCast]
  refine wrap_u_nat (Nat.xor_lt_two_pow (n := 64) ?_ hM)
  have := Ck.wrap_U64 t
  have := this.2
  omega
theorem xor_u64 {b : Int} (hb : Ck.U64 b) {M : Nat} (hM : M < 18446744073709551616) : bits .xor .u64 b (M : Int) = ((b.toNat ^^^ M : Nat) : Int) := by
  obtain ⟨B, rfl⟩ := Int.eq_ofNat_of_zero_le hb.1
  rw [bits_xor_u64_nat B M (by have := hb.2; omega) hM, Int.toNat_natCast]
structure Sp where
  p : Int
  n : Int
  y : Int
  x : Int
def Sp.cells (q : Sp) : List Value := [.int .i64 q.p, .int .i64 q.n, .int .u8 q.y, .int .u8 q.x]
def Sp.ok (q : Sp) : Prop := I64 q.p ∧ I64 q.n ∧ (0 ≤ q.y ∧ q.y < 256) ∧ (0 ≤ q.x ∧ q.x < 256)
def mask (b j : Nat) : Nat := b * 2 ^ (8 * j)
theorem seal_of {l : List V} (h : Vld l) {i : Nat} (hi : i < l.length) : l[i].s = sl (prevAt l i) l[i] := by
  have := h i hi
  unfold badAt badV at this
  simp only [Bool.or_eq_false_iff] at this
  have h1 := this.1.2
  rw [List.getD_eq_getElem?_getD, List.getElem?_eq_getElem hi] at h1
  simpa using h1
theorem word_ne {b j : Nat} (hb : 0 < b ∧ b < 256) (hj : j < 8) {x : Int} (hx : Ck.U64 x) : IntKind.u64.wrap (wrap64 (bits .xor .u64 x (mask b j : Nat))) = (((IntKind.u64.wrap (wrap64 x)).toNat ^^^ (b * 2 ^ (8 * j)) : Nat) : Int) := by
  have hm : b * 2 ^ (8 * j) < 18446744073709551616 := mask_lt hb.2 hj
  have e : ∀ n : Int, IntKind.u64.wrap (wrap64 n) = IntKind.u64.wrap n := fun n => by unfold wrap64; rw [IntKind.wrap_u64, IntKind.wrap_u64]; omega
  have hw : IntKind.u64.wrap x = x := by obtain ⟨a, c⟩ := hx; rw [IntKind.wrap_u64]; omega
  rw [e, e, hw]
  unfold mask
  rw [xor_u64 hx hm]
  refine wrap_u_nat (Nat.xor_lt_two_pow (n := 64) ?_ hm)
  obtain ⟨a, c⟩ := hx; omega
section
variable {l : List V} (h : Vld l) {i : Nat} (hi : i < l.length) {b j : Nat} (hb : 0 < b ∧ b < 256) (hj : j < 8)
include h hi hb hj
theorem mod_t : chk (l.set i { l[i] with t := bits .xor .i64 l[i].t (IntKind.i64.wrap (mask b j : Nat)) }) = i ∧ apart (l.set i { l[i] with t := bits .xor .i64 l[i].t (IntKind.i64.wrap (mask b j : Nat)) }) l = i := by
  have hs := seal_of h hi
  have hne : sl (prevAt l i) { l[i] with t := bits .xor .i64 l[i].t (IntKind.i64.wrap (mask b j : Nat)) } ≠ sl (prevAt l i) l[i] :=
    ints_ne [wrap64 (prevAt l i)] [l[i].e, wrap64 l[i].b, wrap64 l[i].d] _ _ b j hb hj (xor_i64 _ (mask_lt hb.2 hj))
  refine ⟨chk_set h hi ?_, apart_set hi ?_⟩
  · unfold badV
    rw [Bool.or_eq_true]; right
    rw [bne_iff_ne]; exact fun e => hne (e.symm.trans hs)
  · intro e; exact hne (congrArg _ e)
theorem mod_e : chk (l.set i { l[i] with e := bits .xor .i64 l[i].e (IntKind.i64.wrap (mask b j : Nat)) }) = i ∧ apart (l.set i { l[i] with e := bits .xor .i64 l[i].e (IntKind.i64.wrap (mask b j : Nat)) }) l = i := by
  have hs := seal_of h hi
  have hne : sl (prevAt l i) { l[i] with e := bits .xor .i64 l[i].e (IntKind.i64.wrap (mask b j : Nat)) } ≠ sl (prevAt l i) l[i] :=
    ints_ne [wrap64 (prevAt l i), l[i].t] [wrap64 l[i].b, wrap64 l[i].d] _ _ b j hb hj (xor_i64 _ (mask_lt hb.2 hj))
  refine ⟨chk_set h hi ?_, apart_set hi ?_⟩
  · unfold badV
    rw [Bool.or_eq_true]; right
    rw [bne_iff_ne]; exact fun e => hne (e.symm.trans hs)
  · intro e; exact hne (congrArg _ e)
theorem mod_b (hv : l[i].ok) : chk (l.set i { l[i] with b := bits .xor .u64 l[i].b (mask b j : Nat) }) = i ∧ apart (l.set i { l[i] with b := bits .xor .u64 l[i].b (mask b j : Nat) }) l = i := by
  have hs := seal_of h hi
  have hne : sl (prevAt l i) { l[i] with b := bits .xor .u64 l[i].b (mask b j : Nat) } ≠ sl (prevAt l i) l[i] :=
    ints_ne [wrap64 (prevAt l i), l[i].t, l[i].e] [wrap64 l[i].d] _ _ b j hb hj (word_ne hb hj hv.2.2.1)
  refine ⟨chk_set h hi ?_, apart_set hi ?_⟩
  · unfold badV
    rw [Bool.or_eq_true]; right
    rw [bne_iff_ne]; exact fun e => hne (e.symm.trans hs)
  · intro e; exact hne (congrArg _ e)
theorem mod_d (hv : l[i].ok) : chk (l.set i { l[i] with d := bits .xor .u64 l[i].d (mask b j : Nat) }) = i ∧ apart (l.set i { l[i] with d := bits .xor .u64 l[i].d (mask b j : Nat) }) l = i := by
  have hs := seal_of h hi
  have hne : sl (prevAt l i) { l[i] with d := bits .xor .u64 l[i].d (mask b j : Nat) } ≠ sl (prevAt l i) l[i] :=
    ints_ne [wrap64 (prevAt l i), l[i].t, l[i].e, wrap64 l[i].b] [] _ _ b j hb hj (word_ne hb hj hv.2.2.2.1)
  refine ⟨chk_set h hi ?_, apart_set hi ?_⟩
  · unfold badV
    rw [Bool.or_eq_true]; right
    rw [bne_iff_ne]; exact fun e => hne (e.symm.trans hs)
  · intro e; exact hne (congrArg _ e)
theorem mod_s (hv : l[i].ok) : chk (l.set i { l[i] with s := bits .xor .u64 l[i].s (mask b j : Nat) }) = i ∧ apart (l.set i { l[i] with s := bits .xor .u64 l[i].s (mask b j : Nat) }) l = i := by
  have hs := seal_of h hi
  have hm : 0 < mask b j := Nat.mul_pos hb.1 (Nat.pow_pos (by decide))
  have hne : bits .xor .u64 l[i].s (mask b j : Nat) ≠ l[i].s := by
    rw [xor_u64 hv.2.2.2.2 (show mask b j < _ from mask_lt hb.2 hj)]
    intro e
    refine xor_ne' (x := l[i].s.toNat) hm ?_
    have := congrArg Int.toNat e
    rwa [Int.toNat_natCast] at this
  refine ⟨chk_set h hi ?_, apart_set hi ?_⟩
  · unfold badV
    rw [Bool.or_eq_true]; right
    rw [bne_iff_ne]
    show bits .xor .u64 l[i].s (mask b j : Nat) ≠ sl (prevAt l i) l[i]
    rw [← hs]; exact hne
  · intro e; exact hne (congrArg V.s e)
end
/-! ### what is appended stands behind what was there -/
theorem app_pre (l : List V) (v : V) : l <+: appL l v := by
  unfold appL; split
  · exact List.prefix_refl _
  · exact List.prefix_append _ _
theorem fold_pre : ∀ (l m : List V), m <+: l.foldl appL m
  | [], m => List.prefix_refl _
  | v :: l, m => (app_pre m v).trans (fold_pre l (appL m v))
theorem app_ok {l : List V} (h : ∀ v ∈ l, v.ok) {v : V} (hv : v.ok) : ∀ u ∈ appL l v, u.ok := by
  unfold appL; split
  · exact h
  · intro u hu
    rcases List.mem_append.1 hu with hu | hu
    · exact h u hu
    · obtain rfl := List.mem_singleton.1 hu
      exact ⟨hv.1, hv.2.1, hv.2.2.1, hv.2.2.2.1, sl_u64 _ _⟩
theorem fold_ok : ∀ (l m : List V), (∀ v ∈ m, v.ok) → (∀ v ∈ l, v.ok) → ∀ u ∈ l.foldl appL m, u.ok
  | [], m, h, _ => h
  | v :: l, m, h, h' => fold_ok l _ (app_ok h (h' v (by simp))) (fun u hu => h' u (by simp [hu]))
theorem run_ok {l : List V} (h : ∀ v ∈ l, v.ok) : ∀ u ∈ runL l, u.ok := fold_ok l [] (by simp) h
end Hi
end Go.Proofs.Ytgmhcfhmpjpomaa
