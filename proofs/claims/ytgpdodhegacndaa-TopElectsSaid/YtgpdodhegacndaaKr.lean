/- Layer 20: records as plain data, their encoding, and the valid prefix. No program is named here. -/
import Derived.Test.YtgpdodhegacndaaCkMath
import Derived.Test.YtgpdodhegacndaaWrMath
namespace Go.Proofs.Ytgpdodhegacndaa
set_option linter.unusedSimpArgs false
set_option linter.unusedVariables false
open Go.RowKit
namespace Jr
structure R where
  k : Int
  b : List Int
  deriving DecidableEq
def R.ok (r : R) : Prop := (0 ≤ r.k ∧ r.k < 256) ∧ Ck.Bts r.b
def next (s : Int) (r : R) : Int := Ck.recI s r.k r.b
def s0 : Int := 14695981039346656037
def sealF (s : Int) (l : List R) : Int := l.foldl next s
def one (s : Int) (r : R) : List Int := Wr.enc (r.b.length : Nat) ++ (r.k :: (r.b ++ Ck.bytesI (next s r)))
def encs : Int → List R → List Int
  | _, [] => []
  | s, r :: l => one s r ++ encs (next s r) l
theorem encs_append (a b : List R) : ∀ s, encs s (a ++ b) = encs s a ++ encs (sealF s a) b := by
  induction a with
  | nil => intro s; rfl
  | cons r a ih => intro s; show one s r ++ encs (next s r) (a ++ b) = _; rw [ih]; simp [encs, sealF]
theorem encs_snoc (l : List R) (r : R) (s : Int) : encs s (l ++ [r]) = encs s l ++ one (sealF s l) r := by rw [encs_append]; simp [encs]
theorem sealF_snoc (l : List R) (r : R) (s : Int) : sealF s (l ++ [r]) = next (sealF s l) r := by unfold sealF; rw [List.foldl_append]; rfl
theorem encs_take {l : List R} {k : Nat} (hk : k < l.length) (s : Int) : encs s (l.take (k + 1)) = encs s (l.take k) ++ one (sealF s (l.take k)) l[k] := by
  rw [List.take_succ_eq_append_getElem hk, encs_snoc]
theorem sealF_take {l : List R} {k : Nat} (hk : k < l.length) (s : Int) : sealF s (l.take (k + 1)) = next (sealF s (l.take k)) l[k] := by
  rw [List.take_succ_eq_append_getElem hk, sealF_snoc]
theorem recI_U64 (p k : Int) (l : List Int) : Ck.U64 (Ck.recI p k l) := by
  unfold Ck.recI
  exact Ck.moreI_bd l _ (Ck.moreI_bd _ _ (Ck.stepI_bd _ _))
theorem sealF_U64 (l : List R) : ∀ s, Ck.U64 s → Ck.U64 (sealF s l) := by
  induction l with
  | nil => intro s h; exact h
  | cons r l ih => intro s h; exact ih _ (recI_U64 _ _ _)
theorem s0_U64 : Ck.U64 s0 := by unfold Ck.U64 s0; omega
/-- the decoder takes the shortest encoding alone -/
theorem dec_canon : ∀ (l : List Int) (i acc u : Nat) (r : List Int), (∀ x ∈ l, 0 ≤ x ∧ x < 256) → Wr.dec i acc l = .ok (u, r) → ∃ v : Nat, l = Wr.vint v ++ r ∧ u = acc + v * 128 ^ i ∧ (0 < i → 0 < v)
  | [], _, _, _, _, _, h => by simp [Wr.dec] at h
  | c :: l, i, acc, u, r, hb, h => by
    have hc0 := hb c (by simp)
    by_cases h1 : (9 ≤ i ∧ c ≠ 1) ∨ (0 < i ∧ c = 0)
    · rw [Wr.dec_bad h1] at h; cases h
    · by_cases h2 : c < 128
      · rw [Wr.dec_end h1 h2] at h
        injection h with h; injection h with h3 h4
        refine ⟨c.toNat, ?_, h3.symm, fun h0 => by omega⟩
        rw [Wr.vint_lt (by omega), ← h4, List.singleton_append, Int.toNat_of_nonneg hc0.1]
      · rw [Wr.dec_on h1 h2] at h
        obtain ⟨v, e1, e2, e3⟩ := dec_canon l _ _ u r (fun x hx => hb x (by simp [hx])) h
        have hv := e3 (by omega)
        refine ⟨(c % 128).toNat + 128 * v, ?_, ?_, fun _ => by omega⟩
        · rw [Wr.vint_ge (by omega), show ((c % 128).toNat + 128 * v) / 128 = v by omega, e1]
          rw [show (((c % 128).toNat + 128 * v : Nat) : Int) % 128 + 128 = c by omega]
          rfl
        · rw [e2, Nat.pow_succ, Nat.add_mul, Nat.mul_assoc 128 v, Nat.mul_left_comm 128 v, Nat.mul_comm 128 (128 ^ i)]
          omega
theorem dec_canon0 {l : List Int} {u : Nat} {r : List Int} (hb : ∀ x ∈ l, 0 ≤ x ∧ x < 256) (h : Wr.dec 0 0 l = .ok (u, r)) : l = Wr.vint u ++ r := by
  obtain ⟨v, e, h2, _⟩ := dec_canon l 0 0 u r hb h
  have : u = v := by simpa using h2
  rw [this]; exact e
theorem unzz_nonneg {u : Nat} (h : 0 ≤ Wr.unzz u) : Wr.vint u = Wr.enc (Wr.unzz u) := by
  unfold Wr.enc
  congr 1
  have h3 : ((Lib.zigzag (Wr.unzz u) : Nat) : Int) = Wr.unzz u * 2 := Lib.zigzag_nonneg h
  unfold Wr.unzz at h h3 ⊢
  split at h
  · omega
  · rename_i h1
    rw [if_neg h1] at h3 ⊢
    omega
/-- the length of a body, and how many bytes say it -/
def rl (b : List Int) : Option (Nat × Nat) := match Wr.dec 0 0 b with
  | .ok (u, r) => if 0 ≤ Wr.unzz u ∧ Wr.unzz u ≤ 8192 then some ((Wr.unzz u).toNat, b.length - r.length) else none
  | .error _ => none
theorem rl_some {b : List Int} {n m : Nat} (hb : Ck.Bts b) (h : rl b = some (n, m)) : n ≤ 8192 ∧ m ≤ b.length ∧ m = (Wr.enc (n : Nat)).length ∧ b = Wr.enc (n : Nat) ++ b.drop m := by
  unfold rl at h
  split at h
  · rename_i u r hd
    split at h
    · rename_i hu
      injection h with h; injection h with h1 h2
      have e := dec_canon0 hb hd
      rw [unzz_nonneg hu.1] at e
      have hn : Wr.unzz u = (n : Nat) := by omega
      rw [hn] at e
      have hl : b.length = (Wr.enc (n : Nat)).length + r.length := by rw [congrArg List.length e, List.length_append]
      refine ⟨by omega, by omega, by omega, ?_⟩
      rw [show m = (Wr.enc (n : Nat)).length by omega]
      conv => rhs; rw [e, List.drop_left]
      rw [← e]
    · cases h
  · cases h
theorem rl_enc {n : Nat} (h : n ≤ 8192) (t : List Int) : rl (Wr.enc (n : Nat) ++ t) = some (n, (Wr.enc (n : Nat)).length) := by
  unfold rl
  rw [Wr.dec_enc (show Wr.I64 (n : Nat) by unfold Wr.I64; omega)]
  simp only [Wr.unzz_zz]
  rw [if_pos (by omega), List.length_append]
  congr 2
  omega
def first (s : Int) (b : List Int) : Option (R × Nat) := match rl b with
  | none => none
  | some (n, m) => if m + n + 9 ≤ b.length ∧ (b.drop (m + 1 + n)).take 8 = Ck.bytesI (Ck.recI s (b.getD m 0) ((b.drop (m + 1)).take n)) then some (⟨b.getD m 0, (b.drop (m + 1)).take n⟩, m + n + 9) else none
theorem first_some {s : Int} {b : List Int} {r : R} {n : Nat} (hb : Ck.Bts b) (h : first s b = some (r, n)) : r.ok ∧ r.b.length ≤ 8192 ∧ n ≤ b.length ∧ n = (one s r).length ∧ b = one s r ++ b.drop n := by
  unfold first at h
  split at h
  · cases h
  · rename_i k m hr
    obtain ⟨h1, h2, h3, h4⟩ := rl_some hb hr
    split at h
    · rename_i hc
      injection h with h; injection h with e1 e2
      subst e1 e2
      have hm : m < b.length := by omega
      have hbk : b.getD m 0 = b[m] := by rw [List.getD_eq_getElem?_getD, List.getElem?_eq_getElem hm]; rfl
      have hlen : ((b.drop (m + 1)).take k).length = k := by rw [List.length_take, List.length_drop]; omega
      have hsplit : b.drop m = b.getD m 0 :: ((b.drop (m + 1)).take k ++ (Ck.bytesI (Ck.recI s (b.getD m 0) ((b.drop (m + 1)).take k)) ++ b.drop (m + k + 9))) := by
        rw [List.drop_eq_getElem_cons hm, hbk, ← hbk, ← hc.2]
        congr 1
        have t1 : b.drop (m + 1) = (b.drop (m + 1)).take k ++ b.drop (m + 1 + k) := by
          conv => lhs; rw [← List.take_append_drop k (b.drop (m + 1))]
          rw [List.drop_drop]
        have t2 : b.drop (m + 1 + k) = (b.drop (m + 1 + k)).take 8 ++ b.drop (m + k + 9) := by
          conv => lhs; rw [← List.take_append_drop 8 (b.drop (m + 1 + k))]
          rw [List.drop_drop, show m + 1 + k + 8 = m + k + 9 by omega]
        conv => lhs; rw [t1]
        conv => lhs; arg 2; rw [t2]
      refine ⟨⟨hb _ (by rw [hbk]; exact List.getElem_mem _), fun x hx => hb x (List.mem_of_mem_drop (List.mem_of_mem_take hx))⟩, by rw [hlen]; exact h1, hc.1, ?_, ?_⟩
      · unfold one next
        simp only [List.length_append, List.length_cons, hlen, Ck.bytesI_length]
        omega
      · unfold one next
        rw [hlen]
        conv => lhs; rw [h4, hsplit]
        simp
    · cases h
theorem first_one {s : Int} {r : R} (hs : r.b.length ≤ 8192) (t : List Int) : first s (one s r ++ t) = some (r, (one s r).length) := by
  have e : one s r ++ t = Wr.enc (r.b.length : Nat) ++ (r.k :: (r.b ++ (Ck.bytesI (next s r) ++ t))) := by unfold one; simp
  unfold first
  rw [e, rl_enc hs]
  have hg : (Wr.enc (r.b.length : Nat) ++ (r.k :: (r.b ++ (Ck.bytesI (next s r) ++ t)))).getD (Wr.enc (r.b.length : Nat)).length 0 = r.k := by
    rw [List.getD_eq_getElem?_getD, List.getElem?_append_right (Nat.le_refl _), Nat.sub_self]; rfl
  have hd : (Wr.enc (r.b.length : Nat) ++ (r.k :: (r.b ++ (Ck.bytesI (next s r) ++ t)))).drop ((Wr.enc (r.b.length : Nat)).length + 1) = r.b ++ (Ck.bytesI (next s r) ++ t) := by
    rw [← List.drop_drop, List.drop_left]; rfl
  have hd2 : (Wr.enc (r.b.length : Nat) ++ (r.k :: (r.b ++ (Ck.bytesI (next s r) ++ t)))).drop ((Wr.enc (r.b.length : Nat)).length + 1 + r.b.length) = Ck.bytesI (next s r) ++ t := by
    rw [← List.drop_drop, hd, List.drop_left]
  simp only [hg, hd, hd2, List.take_left']
  rw [List.take_left' (Ck.bytesI_length _), if_pos]
  · congr 2
    unfold one
    simp [Ck.bytesI_length]; omega
  · refine ⟨?_, rfl⟩
    simp [Ck.bytesI_length]; omega
/-- L is the valid prefix of b, n its length -/
structure Val (s : Int) (b : List Int) (L : List R) (n : Nat) : Prop where
  len : n ≤ b.length
  pre : b.take n = encs s L
  ok : ∀ r ∈ L, r.ok ∧ r.b.length ≤ 8192
  stop : first (sealF s L) (b.drop n) = none
theorem Val.eq {b : List Int} : ∀ {L L' : List R} {s : Int} {n n' : Nat} {b : List Int}, Val s b L n → Val s b L' n' → L = L' ∧ n = n'
  | [], [], s, n, n', b, h, h' => by
    have h1 := congrArg List.length h.pre
    have h2 := congrArg List.length h'.pre
    rw [List.length_take, Nat.min_eq_left h.len] at h1
    rw [List.length_take, Nat.min_eq_left h'.len] at h2
    exact ⟨rfl, by rw [h1, h2]⟩
  | r :: L, [], s, n, n', b, h, h' => by
    exfalso
    have h0 : n' = 0 := by have h2 := congrArg List.length h'.pre; rw [List.length_take, Nat.min_eq_left h'.len] at h2; exact h2
    have hst := h'.stop
    rw [h0, List.drop_zero] at hst
    have hb : b = one s r ++ (encs (next s r) L ++ b.drop n) := by
      conv => lhs; rw [← List.take_append_drop n b, h.pre]
      simp [encs]
    rw [hb, show sealF s [] = s from rfl, first_one (h.ok r (by simp)).2] at hst
    cases hst
  | [], r :: L', s, n, n', b, h, h' => by
    exfalso
    have h0 : n = 0 := by have h2 := congrArg List.length h.pre; rw [List.length_take, Nat.min_eq_left h.len] at h2; exact h2
    have hst := h.stop
    rw [h0, List.drop_zero] at hst
    have hb : b = one s r ++ (encs (next s r) L' ++ b.drop n') := by
      conv => lhs; rw [← List.take_append_drop n' b, h'.pre]
      simp [encs]
    rw [hb, show sealF s [] = s from rfl, first_one (h'.ok r (by simp)).2] at hst
    cases hst
  | r :: L, r' :: L', s, n, n', b, h, h' => by
    have hb : b = one s r ++ (encs (next s r) L ++ b.drop n) := by
      conv => lhs; rw [← List.take_append_drop n b, h.pre]
      simp [encs]
    have hb' : b = one s r' ++ (encs (next s r') L' ++ b.drop n') := by
      conv => lhs; rw [← List.take_append_drop n' b, h'.pre]
      simp [encs]
    have f1 := first_one (s := s) (h.ok r (by simp)).2 (encs (next s r) L ++ b.drop n)
    have f2 := first_one (s := s) (h'.ok r' (by simp)).2 (encs (next s r') L' ++ b.drop n')
    rw [← hb] at f1
    rw [← hb', f1] at f2
    injection f2 with f2; injection f2 with e _
    subst e
    have down : ∀ {M : List R} {m : Nat}, Val s b (r :: M) m → Val (next s r) (b.drop (one s r).length) M (m - (one s r).length) ∧ (one s r).length ≤ m := fun {M m} hv => by
      have hl := congrArg List.length hv.pre
      rw [List.length_take, Nat.min_eq_left hv.len] at hl
      have hle : (one s r).length ≤ m := by rw [hl]; simp [encs]
      refine ⟨⟨by rw [List.length_drop]; have := hv.len; omega, ?_, fun x hx => hv.ok x (by simp [hx]), ?_⟩, hle⟩
      · have := congrArg (List.drop (one s r).length) hv.pre
        rw [List.drop_take] at this
        rw [this]; simp [encs]
      · rw [List.drop_drop, show (one s r).length + (m - (one s r).length) = m by omega]; exact hv.stop
    obtain ⟨v1, l1⟩ := down h
    obtain ⟨v2, l2⟩ := down h'
    obtain ⟨e1, e2⟩ := Val.eq (b := b) v1 v2
    exact ⟨by rw [e1], by omega⟩
/-- reading goes on by one record -/
theorem val_step {s : Int} {b : List Int} {L : List R} {n m : Nat} {r : R} (hb : Ck.Bts b) (hn : n ≤ b.length) (hp : b.take n = encs s L) (hf : first (sealF s L) (b.drop n) = some (r, m)) :
    n + m ≤ b.length ∧ b.take (n + m) = encs s (L ++ [r]) ∧ r.ok ∧ r.b.length ≤ 8192 ∧ 1 ≤ m ∧ m = (one (sealF s L) r).length := by
  obtain ⟨h1, h2, h3, h4, h5⟩ := first_some (fun x hx => hb x (List.mem_of_mem_drop hx)) hf
  rw [List.length_drop] at h3
  refine ⟨by omega, ?_, h1, h2, ?_, h4⟩
  · rw [encs_snoc, ← hp, List.take_add]
    congr 1
    rw [h5, h4, List.take_left]
  · rw [h4]; unfold one; simp; omega
end Jr
end Go.Proofs.Ytgpdodhegacndaa
