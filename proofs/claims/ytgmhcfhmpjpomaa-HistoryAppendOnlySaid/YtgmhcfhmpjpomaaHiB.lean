/- Layer 49: the walks of Divergence, Apart and Same. -/
import Derived.Test.YtgmhcfhmpjpomaaHiA
namespace Go.Proofs.Ytgmhcfhmpjpomaa
set_option linter.unusedSimpArgs false
set_option linter.unusedVariables false
open Go.RowKit

namespace Hi
/-- the first index at which two lists differ, or -1 -/
def apart : List V → List V → Int
  | [], [] => -1
  | [], _ :: _ => 0
  | _ :: _, [] => 0
  | a :: l, b :: m => if a = b then (if apart l m = -1 then -1 else apart l m + 1) else 0
theorem apart_ge : ∀ a b : List V, -1 ≤ apart a b
  | [], [] => by unfold apart; omega
  | [], _ :: _ => by unfold apart; omega
  | _ :: _, [] => by unfold apart; omega
  | a :: l, b :: m => by
    have := apart_ge l m
    unfold apart; split
    · split <;> omega
    · omega
theorem apart_same (a : List V) : apart a a = -1 := by
  induction a with
  | nil => rfl
  | cons x l ih => unfold apart; rw [if_pos rfl, if_pos ih]
theorem apart_eq : ∀ {a b : List V}, apart a b = -1 → a = b
  | [], [], _ => rfl
  | [], _ :: _, h => by simp [apart] at h
  | _ :: _, [], h => by simp [apart] at h
  | x :: l, y :: m, h => by
    unfold apart at h
    split at h
    · rename_i hxy
      split at h
      · rename_i hl; rw [hxy, apart_eq hl]
      · have := apart_ge l m; omega
    · simp at h
theorem apart_hit : ∀ (k : Nat) (a b : List V), (∀ j, j < k → a[j]? = b[j]?) → (k < a.length ∨ k < b.length) → a[k]? ≠ b[k]? → apart a b = k
  | 0, [], [], _, h, _ => by simp at h
  | 0, [], _ :: _, _, _, _ => rfl
  | 0, _ :: _, [], _, _, _ => rfl
  | 0, x :: l, y :: m, _, _, h => by
    unfold apart; rw [if_neg (fun e => h (by rw [e]; rfl))]; rfl
  | k + 1, [], [], _, h, _ => by simp at h
  | k + 1, [], y :: m, h, _, _ => by have := h 0 (by omega); simp at this
  | k + 1, x :: l, [], h, _, _ => by have := h 0 (by omega); simp at this
  | k + 1, x :: l, y :: m, h, hl, hne => by
    have h0 : x = y := by have := h 0 (by omega); simpa using this
    have ih := apart_hit k l m (fun j hj => by have := h (j + 1) (by omega); simpa using this) (by simpa using hl) (by simpa using hne)
    unfold apart; rw [if_pos h0, ih, if_neg (by omega)]; omega
theorem apart_end (a b : List V) (h : ∀ j, j < a.length ∨ j < b.length → a[j]? = b[j]?) : apart a b = -1 := by
  have e : a = b := by
    apply List.ext_getElem?
    intro j
    by_cases hj : j < a.length ∨ j < b.length
    · exact h j hj
    · rw [List.getElem?_eq_none (by omega), List.getElem?_eq_none (by omega)]
  rw [e]; exact apart_same b
theorem apart_comm (a b : List V) : apart a b = apart b a := by
  induction a generalizing b with
  | nil => cases b <;> rfl
  | cons x l ih =>
    cases b with
    | nil => rfl
    | cons y m =>
      unfold apart
      by_cases h : x = y
      · rw [if_pos h, if_pos h.symm, ih m]
      · rw [if_neg h, if_neg (fun e => h e.symm)]
theorem V.ne_cases {x y : V} (h : x ≠ y) : ¬ x.t = y.t ∨ (x.t = y.t ∧ ¬ x.e = y.e) ∨ (x.t = y.t ∧ x.e = y.e ∧ ¬ x.b = y.b) ∨ (x.t = y.t ∧ x.e = y.e ∧ x.b = y.b ∧ ¬ x.d = y.d) ∨ (x.t = y.t ∧ x.e = y.e ∧ x.b = y.b ∧ x.d = y.d ∧ ¬ x.s = y.s) := by
  by_cases h1 : x.t = y.t
  · by_cases h2 : x.e = y.e
    · by_cases h3 : x.b = y.b
      · by_cases h4 : x.d = y.d
        · by_cases h5 : x.s = y.s
          · exact absurd (by cases x; cases y; simp_all) h
          · exact .inr (.inr (.inr (.inr ⟨h1, h2, h3, h4, h5⟩)))
        · exact .inr (.inr (.inr (.inl ⟨h1, h2, h3, h4⟩)))
      · exact .inr (.inr (.inl ⟨h1, h2, h3⟩))
    · exact .inr (.inl ⟨h1, h2⟩)
  · exact .inl h1
theorem upto_succ {a b : List V} {k : Nat} (h : ∀ j, j < k → a[j]? = b[j]?) (e : a[k]? = b[k]?) : ∀ j, j < k + 1 → a[j]? = b[j]? := fun j hj => by
  rcases Nat.lt_or_ge j k with h1 | h1
  · exact h j h1
  · obtain rfl : j = k := by omega
    exact e
end Hi

set_option maxRecDepth 100000 in
set_option maxHeartbeats 1000000 in
theorem rapart_any (w : World) (A : Option Addr) (a : List Hi.V) (c : Nat) (A' : Option Addr) (b : List Hi.V) (c' : Nat) (ha : Rd w A (Hi.vals a)) (hb : Rd w A' (Hi.vals b)) (hla : a.length ≤ 10000) (hlb : b.length ≤ 10000) :
    Calls Try.prog 19 #[.slice A a.length c, .slice A' b.length c'] w fun e w' => e = .returned (.int .i64 (Hi.apart a b)) ∧ Below w.heap.size w w' := by
  have HA := Lib.hid ha
  have HB := Lib.hid hb
  clear ha hb
  go_enter Try.func19, Try.ntmps19
  go_wp2_with fail
  go_loopw [5] (fun i wr => ∃ k : Nat, k ≤ 10000 ∧ i = .int .i64 k ∧ Hid ((∀ j, j < k → a[j]? = b[j]?) ∧ (k ≤ a.length ∨ k ≤ b.length) ∧ Below w.heap.size w wr)) (fun i _ => max a.length b.length - (intOf i).toNat)
  case atStart => exact ⟨0, by omega, rfl, ⟨fun j hj => by omega, by omega, Below.refl _ _⟩⟩
  case round =>
    obtain ⟨k, hk, rfl, hrel⟩ := hrel
    have HE := Lib.hid hrel.out.1
    have HK := Lib.hid hrel.out.2.1
    have HBL := Lib.hid hrel.out.2.2
    clear hrel
    by_cases h1 : k < a.length
    · by_cases h2 : k < b.length
      · have h1' : (k : Int) < (a.length : Int) := by omega
        have h2' : (k : Int) < (b.length : Int) := by omega
        have hk0 : (0 : Int) ≤ (k : Int) := by omega
        obtain ⟨ad, bk, of_, hA, hadd, k0, k1, k2, k3, k4⟩ := rd_vals (HA.out.low HBL.out) k h1
        obtain ⟨ad', bk', of', hA', hadd', m0, m1, m2, m3, m4⟩ := rd_vals (HB.out.low HBL.out) k h2
        obtain ⟨x, hx⟩ : ∃ x, a[k] = x := ⟨_, rfl⟩
        obtain ⟨y, hy⟩ : ∃ y, b[k] = y := ⟨_, rfl⟩
        rw [hx] at k0 k1 k2 k3 k4
        rw [hy] at m0 m1 m2 m3 m4
        have HAK := Lib.hid (show a[k]? = some x by rw [List.getElem?_eq_getElem h1, hx])
        have HBK := Lib.hid (show b[k]? = some y by rw [List.getElem?_eq_getElem h2, hy])
        subst hA hA'
        clear hx hy
        have qk0 := cell_regrown k0
        have qm0 := cell_regrown m0
        have qk1 := cell_regrown k1
        have qm1 := cell_regrown m1
        have qk2 := cell_regrown k2
        have qm2 := cell_regrown m2
        have qk3 := cell_regrown k3
        have qm3 := cell_regrown m3
        have qk4 := cell_regrown k4
        have qm4 := cell_regrown m4
        by_cases hxy : x = y
        · subst hxy
          go_wp2
          go_quiet (fail)
          go_wp2
          go_roundw
          case rel => exact ⟨k + 1, by omega, by go_num, ⟨Hi.upto_succ HE.out (HAK.out.trans HBK.out.symm), by omega, by repeat (first | with_reducible exact HBL.out | (refine Below.drew ?_) | (refine Below.drewN' ?_ _))⟩⟩
          case measure => simp [intOf]; omega
        · have HNE := Lib.hid (show a[k]? ≠ b[k]? by rw [HAK.out, HBK.out]; exact fun h => hxy (by injection h))
          have HR := Lib.hid (Hi.apart_hit k a b HE.out (.inl h1) HNE.out)
          rcases Hi.V.ne_cases hxy with h | ⟨e1, h⟩ | ⟨e1, e2, h⟩ | ⟨e1, e2, e3, h⟩ | ⟨e1, e2, e3, e4, h⟩
          all_goals
            clear hxy
            go_wp2
            refine wp_region_qb (by kernel_rfl) (by kernel_rfl) ?_
            repeat (first | go_big_quiet_step (fail) | quiet_step (fail))
            refine wpQuiet_nil ?_
            intro w2 hb2
            have HB2 := Lib.hid (HBL.out.trans (hb2.mono HBL.out.size))
            clear hb2
            go_wp2
            go_ret
            exact ⟨ret_int HR.out.symm, HB2.out⟩
      · have h2' : ¬ (k : Int) < (b.length : Int) := by omega
        have h1' : (k : Int) < (a.length : Int) := by omega
        have HR := Lib.hid (Hi.apart_hit k a b HE.out (.inl h1) (by rw [List.getElem?_eq_getElem h1, List.getElem?_eq_none (by omega)]; simp))
        try (exfalso; omega)
        all_goals
          go_wp2
          refine wp_region_qb (by kernel_rfl) (by kernel_rfl) ?_
          repeat (first | go_big_quiet_step (fail) | quiet_step (fail))
          refine wpQuiet_nil ?_
          intro w2 hb2
          have HB2 := Lib.hid (HBL.out.trans (hb2.mono HBL.out.size))
          clear hb2
          go_wp2
          go_ret
          exact ⟨ret_int HR.out.symm, HB2.out⟩
    · have h1' : ¬ (k : Int) < (a.length : Int) := by omega
      by_cases h2 : k < b.length
      · have h2' : (k : Int) < (b.length : Int) := by omega
        have HR := Lib.hid (Hi.apart_hit k a b HE.out (.inr h2) (by rw [List.getElem?_eq_getElem h2, List.getElem?_eq_none (by omega)]; simp))
        try (exfalso; omega)
        all_goals
          go_wp2
          refine wp_region_qb (by kernel_rfl) (by kernel_rfl) ?_
          repeat (first | go_big_quiet_step (fail) | quiet_step (fail))
          refine wpQuiet_nil ?_
          intro w2 hb2
          have HB2 := Lib.hid (HBL.out.trans (hb2.mono HBL.out.size))
          clear hb2
          go_wp2
          go_ret
          exact ⟨ret_int HR.out.symm, HB2.out⟩
      · have h2' : ¬ (k : Int) < (b.length : Int) := by omega
        have HR := Lib.hid (Hi.apart_end a b (fun j hj => HE.out j (by omega)))
        go_wp2
        go_ret
        exact ⟨ret_int HR.out.symm, HBL.out⟩

set_option maxRecDepth 100000 in
set_option maxHeartbeats 1000000 in
theorem diverge_any (w : World) (A : Option Addr) (a : List Hi.V) (c : Nat) (A' : Option Addr) (b : List Hi.V) (c' : Nat) (ha : Rd w A (Hi.vals a)) (hb : Rd w A' (Hi.vals b)) (hla : a.length ≤ 10000) (hlb : b.length ≤ 10000) :
    Calls Try.prog 18 #[.slice A a.length c, .slice A' b.length c'] w fun e w' => e = .returned (.int .i64 (Hi.apart a b)) ∧ Below w.heap.size w w' := by
  have HA := Lib.hid ha
  have HB := Lib.hid hb
  clear ha hb
  by_cases hmx : (a.length : Int) < (b.length : Int)
  all_goals
    go_enter Try.func18, Try.ntmps18
    go_wp2_with fail
    go_loopw [11] (fun i wr => ∃ k : Nat, k ≤ 10000 ∧ i = .int .i64 k ∧ Hid ((∀ j, j < k → a[j]? = b[j]?) ∧ (k ≤ a.length ∨ k ≤ b.length) ∧ Below w.heap.size w wr)) (fun i _ => max a.length b.length - (intOf i).toNat)
    case atStart => exact ⟨0, by omega, rfl, ⟨fun j hj => by omega, by omega, Below.refl _ _⟩⟩
    case round =>
      obtain ⟨k, hk, rfl, hrel⟩ := hrel
      have HE := Lib.hid hrel.out.1
      have HK := Lib.hid hrel.out.2.1
      have HBL := Lib.hid hrel.out.2.2
      clear hrel
      by_cases h1 : k < a.length
      · by_cases h2 : k < b.length
        · have h1' : (k : Int) < (a.length : Int) := by omega
          have h2' : (k : Int) < (b.length : Int) := by omega
          have hk0 : (0 : Int) ≤ (k : Int) := by omega
          obtain ⟨ad, bk, of_, hA, hadd, k0, k1, k2, k3, k4⟩ := rd_vals (HA.out.low HBL.out) k h1
          obtain ⟨ad', bk', of', hA', hadd', m0, m1, m2, m3, m4⟩ := rd_vals (HB.out.low HBL.out) k h2
          obtain ⟨x, hx⟩ : ∃ x, a[k] = x := ⟨_, rfl⟩
          obtain ⟨y, hy⟩ : ∃ y, b[k] = y := ⟨_, rfl⟩
          rw [hx] at k0 k1 k2 k3 k4
          rw [hy] at m0 m1 m2 m3 m4
          have HAK := Lib.hid (show a[k]? = some x by rw [List.getElem?_eq_getElem h1, hx])
          have HBK := Lib.hid (show b[k]? = some y by rw [List.getElem?_eq_getElem h2, hy])
          subst hA hA'
          clear hx hy
          have qk0 := cell_regrown k0
          have qm0 := cell_regrown m0
          have qk1 := cell_regrown k1
          have qm1 := cell_regrown m1
          have qk2 := cell_regrown k2
          have qm2 := cell_regrown m2
          have qk3 := cell_regrown k3
          have qm3 := cell_regrown m3
          have qk4 := cell_regrown k4
          have qm4 := cell_regrown m4
          by_cases hxy : x = y
          · subst hxy
            go_wp2
            go_quiet (fail)
            go_wp2
            go_roundw
            case rel => exact ⟨k + 1, by omega, by go_num, ⟨Hi.upto_succ HE.out (HAK.out.trans HBK.out.symm), by omega, by repeat (first | with_reducible exact HBL.out | (refine Below.drew ?_) | (refine Below.drewN' ?_ _))⟩⟩
            case measure => simp [intOf]; omega
          · have HNE := Lib.hid (show a[k]? ≠ b[k]? by rw [HAK.out, HBK.out]; exact fun h => hxy (by injection h))
            have HR := Lib.hid (Hi.apart_hit k a b HE.out (.inl h1) HNE.out)
            rcases Hi.V.ne_cases hxy with h | ⟨e1, h⟩ | ⟨e1, e2, h⟩ | ⟨e1, e2, e3, h⟩ | ⟨e1, e2, e3, e4, h⟩
            all_goals
              clear hxy
              go_wp2
              refine wp_region_qb (by kernel_rfl) (by kernel_rfl) ?_
              repeat (first | go_big_quiet_step (fail) | quiet_step (fail))
              refine wpQuiet_nil ?_
              intro w2 hb2
              have HB2 := Lib.hid (HBL.out.trans (hb2.mono HBL.out.size))
              clear hb2
              go_wp2
              go_ret
              exact ⟨ret_int HR.out.symm, HB2.out⟩
        · have h2' : ¬ (k : Int) < (b.length : Int) := by omega
          have h1' : (k : Int) < (a.length : Int) := by omega
          have HR := Lib.hid (Hi.apart_hit k a b HE.out (.inl h1) (by rw [List.getElem?_eq_getElem h1, List.getElem?_eq_none (by omega)]; simp))
          try (exfalso; omega)
          all_goals
            go_wp2
            refine wp_region_qb (by kernel_rfl) (by kernel_rfl) ?_
            repeat (first | go_big_quiet_step (fail) | quiet_step (fail))
            refine wpQuiet_nil ?_
            intro w2 hb2
            have HB2 := Lib.hid (HBL.out.trans (hb2.mono HBL.out.size))
            clear hb2
            go_wp2
            go_ret
            exact ⟨ret_int HR.out.symm, HB2.out⟩
      · have h1' : ¬ (k : Int) < (a.length : Int) := by omega
        by_cases h2 : k < b.length
        · have h2' : (k : Int) < (b.length : Int) := by omega
          have HR := Lib.hid (Hi.apart_hit k a b HE.out (.inr h2) (by rw [List.getElem?_eq_getElem h2, List.getElem?_eq_none (by omega)]; simp))
          try (exfalso; omega)
          all_goals
            go_wp2
            refine wp_region_qb (by kernel_rfl) (by kernel_rfl) ?_
            repeat (first | go_big_quiet_step (fail) | quiet_step (fail))
            refine wpQuiet_nil ?_
            intro w2 hb2
            have HB2 := Lib.hid (HBL.out.trans (hb2.mono HBL.out.size))
            clear hb2
            go_wp2
            go_ret
            exact ⟨ret_int HR.out.symm, HB2.out⟩
        · have h2' : ¬ (k : Int) < (b.length : Int) := by omega
          have HR := Lib.hid (Hi.apart_end a b (fun j hj => HE.out j (by omega)))
          go_wp2
          go_ret
          exact ⟨ret_int HR.out.symm, HBL.out⟩

theorem rsame_any (w : World) (A : Option Addr) (a : List Hi.V) (c : Nat) (A' : Option Addr) (b : List Hi.V) (c' : Nat) (ha : Rd w A (Hi.vals a)) (hb : Rd w A' (Hi.vals b)) (hla : a.length ≤ 10000) (hlb : b.length ≤ 10000) :
    Calls Try.prog 13 #[.slice A a.length c, .slice A' b.length c'] w fun e w' => e = .returned (.bool (Hi.apart a b == -1)) ∧ Below w.heap.size w w' := by
  go_enter Try.func13, Try.ntmps13
  go_wp2_with (go_at_call 19; refine (rapart_any _ A a c A' b c' ha hb hla hlb).mono ?_; rintro e w1 ⟨rfl, hb1⟩)
  go_ret
  exact ⟨rfl, hb1⟩
end Go.Proofs.Ytgmhcfhmpjpomaa
