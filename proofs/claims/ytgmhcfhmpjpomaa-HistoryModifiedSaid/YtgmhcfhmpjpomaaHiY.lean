/- Layer 49: the laws on changed and appended records. -/
import Derived.Test.YtgmhcfhmpjpomaaHiU
import Derived.Test.YtgmhcfhmpjpomaaHiV
namespace Go.Proofs.Ytgmhcfhmpjpomaa
set_option linter.unusedSimpArgs false
set_option linter.unusedVariables false
open Go.RowKit

theorem ChAt.sep {w : World} {B p : Nat} {g : Option Nat} {l : List Hi.V} (h : ChAt w B p g l) {q : Nat} (hq : w.heap.size ≤ q) : ¬ p = q ∧ ∀ k, g = some k → ¬ k = q := by
  have := h.lt
  exact ⟨by omega, fun k hk => by have := this.2 k hk; omega⟩
namespace Hi
theorem place {p : Int} {n : Nat} (hn : 0 < n) (hn2 : n ≤ 100) : ∃ i : Nat, i < n ∧ (IntKind.u64.wrap p).tmod (IntKind.u64.wrap (n : Int)) = (i : Int) ∧ IntKind.i64.wrap (i : Int) = i := by
  have hw := Ck.wrap_U64 p
  rw [wrap_u_nat (by omega)]
  refine ⟨(IntKind.u64.wrap p).toNat % n, Nat.mod_lt _ hn, ?_, ?_⟩
  · rw [Int.tmod_eq_emod_of_nonneg hw.1]
    obtain ⟨X, hX⟩ := Int.eq_ofNat_of_zero_le hw.1
    rw [hX, Int.toNat_natCast]; rfl
  · have := Nat.mod_lt (IntKind.u64.wrap p).toNat hn
    rw [IntKind.wrap_i64]; omega
theorem shift {y : Int} (hy : 0 ≤ y ∧ y < 256) : ∃ j : Nat, j < 8 ∧ y.tmod 8 = (j : Int) ∧ IntKind.u8.wrap (8 * (j : Int)) = ((8 * j : Nat) : Int) := by
  refine ⟨(y % 8).toNat, by omega, ?_, ?_⟩
  · rw [Int.tmod_eq_emod_of_nonneg hy.1]; omega
  · rw [IntKind.wrap_u8]; omega
theorem mask_shl {x : Int} (hx : 0 ≤ x ∧ x < 256) {j : Nat} (hj : j < 8) : IntKind.u64.wrap (x * 2 ^ min ((8 * j : Nat) : Int).toNat IntKind.u64.bits) = ((mask x.toNat j : Nat) : Int) := by
  obtain ⟨X, rfl⟩ := Int.eq_ofNat_of_zero_le hx.1
  have hm := mask_lt (b := X) (j := j) (by omega) hj
  rw [Int.toNat_natCast, Int.toNat_natCast, show min (8 * j) IntKind.u64.bits = 8 * j from Nat.min_eq_left (by show 8 * j ≤ 64; omega)]
  have e : ((X : Int) * 2 ^ (8 * j)) = ((X * 2 ^ (8 * j) : Nat) : Int) := by push_cast; rfl
  rw [e, wrap_u_nat hm]; rfl
theorem vals_set (l : List V) (i : Nat) (hi : i < l.length) (f : Nat) (hf : f < 5) (u : Value) (v : V) (hv : v.cells = l[i].cells.set f u) : (vals l).set (i * 5 + f) u = vals (l.set i v) := by
  induction l generalizing i with
  | nil => exact absurd hi (by simp)
  | cons a l ih =>
    cases i with
    | zero =>
      have hv : v.cells = a.cells.set f u := hv
      show (a.cells ++ vals l).set (0 * 5 + f) u = v.cells ++ vals l
      rw [show 0 * 5 + f = f by omega, List.set_append_left _ _ (by simpa [V.cells] using hf), hv]
    | succ i =>
      have hi' : i < l.length := by simpa using hi
      show (a.cells ++ vals l).set ((i + 1) * 5 + f) u = a.cells ++ vals (l.set i v)
      rw [List.set_append_right _ _ (by simp [V.cells]; omega), show (i + 1) * 5 + f - a.cells.length = i * 5 + f by simp [V.cells]; omega, ih i hi' hv]
end Hi
set_option maxRecDepth 100000 in
set_option maxHeartbeats 1000000 in
theorem modified_walk (w : World) (A : Option Addr) (l : List Hi.V) (c : Nat) (h : Rd w A (Hi.vals l)) (hok : ∀ v ∈ l, v.ok) (q : Hi.Sp) (hq : q.ok) :
    Calls Try.prog 7 #[.slice A l.length c, .agg #[.int .i64 q.p, .int .i64 q.n, .int .u8 q.y, .int .u8 q.x]] w fun e w' => e = .returned (.bool true) ∧ Below w.heap.size w w' := by
  by_cases hl : l.length ≤ 60
  · have hrl := Hi.runL_len l
    by_cases hx0 : q.x = 0
    · skip
      refine Fw.calls Try.func7 rfl Try.ntmps7 rfl ?_
      have HB := Below.refl (w.heap.size) w
      refine Fw.seq fun _ hK1 => ?_
      refine Fw.region ?_
      refine Fw.box rfl rfl ?_
      intro w1 gQ egQ HQ hb
      have lgQ : w.heap.size ≤ gQ := by have := HB.size; omega
      replace HB := HB.trans (hb.mono HB.size)
      clear hb
      clear egQ
      refine Fw.s (Fw.val_assign rfl) rfl ?_
      refine Fw.nil ?_
      refine hK1 _ _ ?_
      refine Fw.seq fun _ hK2 => ?_
      refine Fw.region ?_
      refine Fw.s (Fw.val_move rfl) rfl ?_
      refine Fw.call cf9 rfl rfl (run_any _ A l c (h.low HB) hl) ?_
      rintro e_ w2 ⟨AM, cM, gM, rfl, HC, HM, hb⟩
      refine ⟨_, rfl, ?_⟩
      replace HQ := HQ.low hb
      replace HB := HB.trans (hb.mono HB.size)
      clear hb
      refine Fw.s (Fw.val_move rfl) rfl ?_
      refine Fw.s (Fw.val_extract rfl rfl) rfl ?_
      refine Fw.s (Fw.val_extract rfl rfl) rfl ?_
      refine Fw.s (Fw.val_extract rfl rfl) rfl ?_
      refine Fw.s (Fw.val_assign rfl) rfl ?_
      refine Fw.s (Fw.val_assign rfl) rfl ?_
      refine Fw.s (Fw.val_assign rfl) rfl ?_
      refine Fw.nil ?_
      refine hK2 _ _ (Fw.FC.sub (f' := [(6, _), (5, _), (3, _)]) (.cons rfl (.cons rfl (.cons rfl .nil))) ?_)
      refine Fw.seq fun _ hK3 => ?_
      refine Fw.seq fun _ hK4 => ?_
      refine Fw.region ?_
      refine Fw.call cf10 rfl rfl (awake_any _) ?_
      rintro e_ w3 ⟨rfl, hb⟩
      refine ⟨_, rfl, ?_⟩
      replace HQ := HQ.low hb
      replace HC := HC.low hb
      replace HM := HM.low hb
      replace HB := HB.trans (hb.mono HB.size)
      clear hb
      refine Fw.s (Fw.val_not rfl) rfl ?_
      refine Fw.s (Fw.val_move rfl) rfl ?_
      refine Fw.gT (d := 21) rfl rfl ?_
      refine Fw.s (Fw.val_move rfl) rfl ?_
      refine Fw.gT (d := 21) rfl rfl ?_
      refine Fw.s (Fw.val_bin rfl rfl (Fw.b_nilP Try.underlying23)) rfl ?_
      refine Fw.s (Fw.val_pickF rfl rfl) rfl ?_
      refine Fw.s (Fw.val_move rfl) rfl ?_
      refine Fw.gT (d := 25) rfl rfl ?_
      refine Fw.s (Fw.val_fieldAddr fl46_3 rfl rfl) rfl ?_
      refine Fw.gT (d := 25) rfl rfl ?_
      refine Fw.ld sc5 rfl (HQ.cell 3) rfl ?_
      refine Fw.gT (d := 25) rfl rfl ?_
      refine Fw.s (Fw.Val.T (Fw.val_bin rfl rfl Fw.b_eql) (by omega)) rfl ?_
      refine Fw.s (Fw.val_pickF rfl rfl) rfl ?_
      refine Fw.s (Fw.val_move rfl) rfl ?_
      refine Fw.gF (d := 30) rfl rfl rfl rfl ?_
      refine Fw.gF (d := 30) rfl rfl rfl rfl ?_
      refine Fw.gF (d := 30) rfl rfl rfl rfl ?_
      refine Fw.s (Fw.val_pickT rfl rfl) rfl ?_
      refine Fw.nil ?_
      refine hK4 _ _ (Fw.FC.sub (f' := [(34, _), (6, _), (5, _), (3, _)]) (.cons rfl (.cons rfl (.cons rfl (.cons rfl .nil)))) ?_)
      refine Fw.condT rfl ?_
      refine Fw.seq fun _ hK5 => ?_
      refine Fw.region ?_
      refine Fw.call cf10 rfl rfl (awake_any _) ?_
      rintro e_ w4 ⟨rfl, hb⟩
      refine ⟨_, rfl, ?_⟩
      replace HQ := HQ.low hb
      replace HC := HC.low hb
      replace HM := HM.low hb
      replace HB := HB.trans (hb.mono HB.size)
      clear hb
      refine Fw.s (Fw.val_assign rfl) rfl ?_
      refine Fw.nil ?_
      refine hK5 _ _ ?_
      refine Fw.ret ?_
      refine Fw.X_ret ?_
      refine Fw.ret_ [.tmp 4] [_] Try.results7 (.tmp rfl .nil) ?_
      exact ⟨rfl, HB⟩
    · by_cases hm0 : (Hi.runL l).length = 0
      · skip
        refine Fw.calls Try.func7 rfl Try.ntmps7 rfl ?_
        have HB := Below.refl (w.heap.size) w
        refine Fw.seq fun _ hK1 => ?_
        refine Fw.region ?_
        refine Fw.box rfl rfl ?_
        intro w1 gQ egQ HQ hb
        have lgQ : w.heap.size ≤ gQ := by have := HB.size; omega
        replace HB := HB.trans (hb.mono HB.size)
        clear hb
        clear egQ
        refine Fw.s (Fw.val_assign rfl) rfl ?_
        refine Fw.nil ?_
        refine hK1 _ _ ?_
        refine Fw.seq fun _ hK2 => ?_
        refine Fw.region ?_
        refine Fw.s (Fw.val_move rfl) rfl ?_
        refine Fw.call cf9 rfl rfl (run_any _ A l c (h.low HB) hl) ?_
        rintro e_ w2 ⟨AM, cM, gM, rfl, HC, HM, hb⟩
        refine ⟨_, rfl, ?_⟩
        replace HQ := HQ.low hb
        replace HB := HB.trans (hb.mono HB.size)
        clear hb
        refine Fw.s (Fw.val_move rfl) rfl ?_
        refine Fw.s (Fw.val_extract rfl rfl) rfl ?_
        refine Fw.s (Fw.val_extract rfl rfl) rfl ?_
        refine Fw.s (Fw.val_extract rfl rfl) rfl ?_
        refine Fw.s (Fw.val_assign rfl) rfl ?_
        refine Fw.s (Fw.val_assign rfl) rfl ?_
        refine Fw.s (Fw.val_assign rfl) rfl ?_
        refine Fw.nil ?_
        refine hK2 _ _ (Fw.FC.sub (f' := [(6, _), (5, _), (3, _)]) (.cons rfl (.cons rfl (.cons rfl .nil))) ?_)
        refine Fw.seq fun _ hK3 => ?_
        refine Fw.seq fun _ hK4 => ?_
        refine Fw.region ?_
        refine Fw.call cf10 rfl rfl (awake_any _) ?_
        rintro e_ w3 ⟨rfl, hb⟩
        refine ⟨_, rfl, ?_⟩
        replace HQ := HQ.low hb
        replace HC := HC.low hb
        replace HM := HM.low hb
        replace HB := HB.trans (hb.mono HB.size)
        clear hb
        refine Fw.s (Fw.val_not rfl) rfl ?_
        refine Fw.s (Fw.val_move rfl) rfl ?_
        refine Fw.gT (d := 21) rfl rfl ?_
        refine Fw.s (Fw.val_move rfl) rfl ?_
        refine Fw.gT (d := 21) rfl rfl ?_
        refine Fw.s (Fw.val_bin rfl rfl (Fw.b_nilP Try.underlying23)) rfl ?_
        refine Fw.s (Fw.val_pickF rfl rfl) rfl ?_
        refine Fw.s (Fw.val_move rfl) rfl ?_
        refine Fw.gT (d := 25) rfl rfl ?_
        refine Fw.s (Fw.val_fieldAddr fl46_3 rfl rfl) rfl ?_
        refine Fw.gT (d := 25) rfl rfl ?_
        refine Fw.ld sc5 rfl (HQ.cell 3) rfl ?_
        refine Fw.gT (d := 25) rfl rfl ?_
        refine Fw.s (Fw.Val.F (Fw.val_bin rfl rfl Fw.b_eql) (by omega)) rfl ?_
        refine Fw.s (Fw.val_pickF rfl rfl) rfl ?_
        refine Fw.s (Fw.val_move rfl) rfl ?_
        refine Fw.gT (d := 30) rfl rfl ?_
        refine Fw.s (Fw.val_move rfl) rfl ?_
        refine Fw.gT (d := 30) rfl rfl ?_
        refine Fw.s (Fw.val_len Try.underlying22 rfl) rfl ?_
        refine Fw.gT (d := 30) rfl rfl ?_
        refine Fw.s (Fw.Val.T (Fw.val_bin rfl rfl Fw.b_eql) (by omega)) rfl ?_
        refine Fw.s (Fw.val_pickF rfl rfl) rfl ?_
        refine Fw.nil ?_
        refine hK4 _ _ (Fw.FC.sub (f' := [(34, _), (6, _), (5, _), (3, _)]) (.cons rfl (.cons rfl (.cons rfl (.cons rfl .nil)))) ?_)
        refine Fw.condT rfl ?_
        refine Fw.seq fun _ hK5 => ?_
        refine Fw.region ?_
        refine Fw.call cf10 rfl rfl (awake_any _) ?_
        rintro e_ w4 ⟨rfl, hb⟩
        refine ⟨_, rfl, ?_⟩
        replace HQ := HQ.low hb
        replace HC := HC.low hb
        replace HM := HM.low hb
        replace HB := HB.trans (hb.mono HB.size)
        clear hb
        refine Fw.s (Fw.val_assign rfl) rfl ?_
        refine Fw.nil ?_
        refine hK5 _ _ ?_
        refine Fw.ret ?_
        refine Fw.X_ret ?_
        refine Fw.ret_ [.tmp 4] [_] Try.results7 (.tmp rfl .nil) ?_
        exact ⟨rfl, HB⟩
      · skip
        refine Fw.calls Try.func7 rfl Try.ntmps7 rfl ?_
        have HB := Below.refl (w.heap.size) w
        refine Fw.seq fun _ hK1 => ?_
        refine Fw.region ?_
        refine Fw.box rfl rfl ?_
        intro w1 gQ egQ HQ hb
        have lgQ : w.heap.size ≤ gQ := by have := HB.size; omega
        replace HB := HB.trans (hb.mono HB.size)
        clear hb
        clear egQ
        refine Fw.s (Fw.val_assign rfl) rfl ?_
        refine Fw.nil ?_
        refine hK1 _ _ ?_
        refine Fw.seq fun _ hK2 => ?_
        refine Fw.region ?_
        refine Fw.s (Fw.val_move rfl) rfl ?_
        refine Fw.call cf9 rfl rfl (run_any _ A l c (h.low HB) hl) ?_
        rintro e_ w2 ⟨AM, cM, gM, rfl, HC, HM, hb⟩
        refine ⟨_, rfl, ?_⟩
        replace HQ := HQ.low hb
        replace HB := HB.trans (hb.mono HB.size)
        clear hb
        refine Fw.s (Fw.val_move rfl) rfl ?_
        refine Fw.s (Fw.val_extract rfl rfl) rfl ?_
        refine Fw.s (Fw.val_extract rfl rfl) rfl ?_
        refine Fw.s (Fw.val_extract rfl rfl) rfl ?_
        refine Fw.s (Fw.val_assign rfl) rfl ?_
        refine Fw.s (Fw.val_assign rfl) rfl ?_
        refine Fw.s (Fw.val_assign rfl) rfl ?_
        refine Fw.nil ?_
        refine hK2 _ _ (Fw.FC.sub (f' := [(6, _), (5, _), (3, _)]) (.cons rfl (.cons rfl (.cons rfl .nil))) ?_)
        refine Fw.seq fun _ hK3 => ?_
        refine Fw.seq fun _ hK4 => ?_
        refine Fw.region ?_
        refine Fw.call cf10 rfl rfl (awake_any _) ?_
        rintro e_ w3 ⟨rfl, hb⟩
        refine ⟨_, rfl, ?_⟩
        replace HQ := HQ.low hb
        replace HC := HC.low hb
        replace HM := HM.low hb
        replace HB := HB.trans (hb.mono HB.size)
        clear hb
        refine Fw.s (Fw.val_not rfl) rfl ?_
        refine Fw.s (Fw.val_move rfl) rfl ?_
        refine Fw.gT (d := 21) rfl rfl ?_
        refine Fw.s (Fw.val_move rfl) rfl ?_
        refine Fw.gT (d := 21) rfl rfl ?_
        refine Fw.s (Fw.val_bin rfl rfl (Fw.b_nilP Try.underlying23)) rfl ?_
        refine Fw.s (Fw.val_pickF rfl rfl) rfl ?_
        refine Fw.s (Fw.val_move rfl) rfl ?_
        refine Fw.gT (d := 25) rfl rfl ?_
        refine Fw.s (Fw.val_fieldAddr fl46_3 rfl rfl) rfl ?_
        refine Fw.gT (d := 25) rfl rfl ?_
        refine Fw.ld sc5 rfl (HQ.cell 3) rfl ?_
        refine Fw.gT (d := 25) rfl rfl ?_
        refine Fw.s (Fw.Val.F (Fw.val_bin rfl rfl Fw.b_eql) (by omega)) rfl ?_
        refine Fw.s (Fw.val_pickF rfl rfl) rfl ?_
        refine Fw.s (Fw.val_move rfl) rfl ?_
        refine Fw.gT (d := 30) rfl rfl ?_
        refine Fw.s (Fw.val_move rfl) rfl ?_
        refine Fw.gT (d := 30) rfl rfl ?_
        refine Fw.s (Fw.val_len Try.underlying22 rfl) rfl ?_
        refine Fw.gT (d := 30) rfl rfl ?_
        refine Fw.s (Fw.Val.F (Fw.val_bin rfl rfl Fw.b_eql) (by omega)) rfl ?_
        refine Fw.s (Fw.val_pickF rfl rfl) rfl ?_
        refine Fw.nil ?_
        refine hK4 _ _ (Fw.FC.sub (f' := [(34, _), (6, _), (5, _), (3, _)]) (.cons rfl (.cons rfl (.cons rfl (.cons rfl .nil)))) ?_)
        refine Fw.condF rfl ?_
        refine Fw.skip ?_
        refine hK3 _ _ ?_
        refine Fw.seq fun _ hK5 => ?_
        have HCa := HC
        have hgq0 := HQ.lt
        refine Fw.region ?_
        refine Fw.s (Fw.val_move rfl) rfl ?_
        refine Fw.call cf20 rfl rfl (all_any _ w1.heap.size w1.heap.size gM (Hi.runL l) HC (by omega)) ?_
        rintro e_ w4 ⟨AO1, cO1, rfl, HO1, hb⟩
        refine ⟨_, rfl, ?_⟩
        replace HQ := HQ.low hb
        replace HC := HC.low hb
        replace HM := HM.low hb
        replace HB := HB.trans (hb.mono HB.size)
        clear hb
        refine Fw.s (Fw.val_assign rfl) rfl ?_
        refine Fw.nil ?_
        refine hK5 _ _ ?_
        refine Fw.seq fun _ hK6 => ?_
        refine Fw.seq fun _ hK7 => ?_
        refine Fw.region ?_
        refine Fw.s (Fw.val_move rfl) rfl ?_
        refine Fw.s (Fw.val_len Try.underlying38 rfl) rfl ?_
        refine Fw.s (Fw.val_move rfl) rfl ?_
        refine Fw.s (Fw.val_len Try.underlying22 rfl) rfl ?_
        refine Fw.s (Fw.Val.F (Fw.val_bin rfl rfl Fw.b_neq) (by simp)) rfl ?_
        refine Fw.s (Fw.val_move rfl) rfl ?_
        refine Fw.gT (d := 43) rfl rfl ?_
        refine Fw.s (Fw.val_move rfl) rfl ?_
        refine Fw.gT (d := 43) rfl rfl ?_
        refine Fw.call cf15 rfl rfl (verify_any _ AO1 (Hi.runL l) cO1 (Rd.of_own HO1) (by omega)) ?_
        rintro e_ w5 ⟨rfl, hb⟩
        refine ⟨_, rfl, ?_⟩
        replace HQ := HQ.low hb
        replace HC := HC.low hb
        replace HM := HM.low hb
        replace HO1 := own_below HO1 hb (Nat.le_refl _)
        replace HB := HB.trans (hb.mono HB.size)
        clear hb
        refine Fw.gT (d := 43) rfl rfl ?_
        refine Fw.s (Fw.Val.F (Fw.val_bin rfl rfl Fw.b_neq) (by rw [(Hi.Vld.run l).chk]; decide)) rfl ?_
        refine Fw.s (Fw.val_pickF rfl rfl) rfl ?_
        refine Fw.nil ?_
        refine hK7 _ _ (Fw.FC.sub (f' := [(47, _), (8, _), (6, _), (5, _), (3, _)]) (.cons rfl (.cons rfl (.cons rfl (.cons rfl (.cons rfl .nil))))) ?_)
        refine Fw.condF rfl ?_
        refine Fw.skip ?_
        refine hK6 _ _ ?_
        refine Fw.seq fun _ hK8 => ?_
        obtain ⟨i, hi, hpl, hpi⟩ := Hi.place (p := q.p) (n := (Hi.runL l).length) (by omega) (by omega)
        obtain ⟨j, hj, hsh, hs8⟩ := Hi.shift hq.2.2.1
        have hxb : 0 < q.x.toNat ∧ q.x.toNat < 256 := by have := hq.2.2.2; omega
        have hxu : IntKind.u64.wrap q.x = q.x := by have := hq.2.2.2; rw [IntKind.wrap_u64]; omega
        refine Fw.region ?_
        refine Fw.s (Fw.val_fieldAddr fl46_0 rfl rfl) rfl ?_
        refine Fw.ld sc3 rfl (HQ.cell 0) rfl ?_
        refine Fw.s (Fw.val_conv Try.underlying3 Try.underlying48 rfl (rfl)) rfl ?_
        refine Fw.s (Fw.val_move rfl) rfl ?_
        refine Fw.s (Fw.val_len Try.underlying22 rfl) rfl ?_
        refine Fw.s (Fw.val_conv Try.underlying3 Try.underlying48 rfl (rfl)) rfl ?_
        refine Fw.s (Fw.val_bin rfl rfl (Fw.b_rem (by rw [Hi.wrap_u_nat (by omega)]; omega) hpl)) rfl ?_
        refine Fw.s (Fw.val_conv Try.underlying48 Try.underlying3 rfl (hpi)) rfl ?_
        refine Fw.s (Fw.val_assign rfl) rfl ?_
        refine Fw.nil ?_
        refine hK8 _ _ (Fw.FC.sub (f' := [(9, _), (8, _), (5, _), (3, _)]) (.cons rfl (.cons rfl (.cons rfl (.cons rfl .nil)))) ?_)
        refine Fw.seq fun _ hK9 => ?_
        refine Fw.region ?_
        refine Fw.s (Fw.val_fieldAddr fl46_3 rfl rfl) rfl ?_
        refine Fw.ld sc5 rfl (HQ.cell 3) rfl ?_
        refine Fw.s (Fw.val_conv Try.underlying5 Try.underlying28 rfl (hxu)) rfl ?_
        refine Fw.s (Fw.val_fieldAddr fl46_2 rfl rfl) rfl ?_
        refine Fw.ld sc5 rfl (HQ.cell 2) rfl ?_
        refine Fw.s (Fw.val_bin rfl rfl (Fw.b_rem (by decide) hsh)) rfl ?_
        refine Fw.s (Fw.val_bin rfl rfl (Fw.b_mul hs8)) rfl ?_
        refine Fw.s (Fw.val_bin rfl rfl (Fw.b_shl (by omega) (Hi.mask_shl hq.2.2.2 hj))) rfl ?_
        refine Fw.s (Fw.val_assign rfl) rfl ?_
        refine Fw.nil ?_
        refine hK9 _ _ (Fw.FC.sub (f' := [(10, _), (9, _), (8, _), (5, _), (3, _)]) (.cons rfl (.cons rfl (.cons rfl (.cons rfl (.cons rfl .nil))))) ?_)
        refine Fw.seq fun _ hK10 => ?_
        refine Fw.region ?_
        refine Fw.s (Fw.val_move rfl) rfl ?_
        refine Fw.s (Fw.val_move rfl) rfl ?_
        obtain ⟨gA, hgA, hgb, hgl, hadd, HE⟩ := Fw.ownAt Hi.cells_len (by decide) HO1 i hi rfl
        subst hgA
        have hsep := HCa.sep hgb
        have hgq : gQ < gA := Nat.lt_of_lt_of_le hgq0 hgb
        have hgw : w.heap.size ≤ gA := Nat.le_trans (Nat.le_of_lt (Nat.lt_of_le_of_lt lgQ hgq0)) hgb
        refine Fw.s (Fw.val_indexR Try.underlying38 sz30 rfl rfl rfl rfl hi hadd) rfl ?_
        refine Fw.s (Fw.val_assign rfl) rfl ?_
        refine Fw.nil ?_
        refine hK10 _ _ ?_
        refine Fw.seq fun _ hK12 => ?_
        refine Fw.seq fun _ hK13 => ?_
        refine Fw.region ?_
        refine Fw.s (Fw.val_fieldAddr fl46_1 rfl rfl) rfl ?_
        refine Fw.ld sc3 rfl (HQ.cell 1) rfl ?_
        refine Fw.nil ?_
        refine hK13 _ _ ?_
        refine Fw.block ?_
        refine Fw.seq fun _ hK14 => ?_
        refine Fw.region ?_
        refine Fw.s2 (Fw.val_bin rfl rfl Fw.b_eql) rfl ?_ ?_
        · rintro hn0
          refine Fw.s (Fw.val_assign rfl) rfl ?_
          refine Fw.nil ?_
          refine hK14 _ _ ?_
          refine Fw.condT rfl ?_
          refine Fw.region ?_
          refine Fw.s (Fw.val_move rfl) rfl ?_
          refine Fw.s (Fw.val_nil rfl) rfl ?_
          refine Fw.s (Fw.val_fieldAddr fl30_0 rfl rfl) rfl ?_
          refine Fw.ld sc2 rfl (Fw.rdCell HE 0 rfl) rfl ?_
          refine Fw.s (Fw.val_move rfl) rfl ?_
          refine Fw.s (Fw.val_conv Try.underlying28 Try.underlying2 rfl (rfl)) rfl ?_
          refine Fw.s (Fw.val_bin rfl rfl (Fw.b_xor rfl)) rfl ?_
          refine Fw.s (Fw.val_nil rfl) rfl ?_
          refine Fw.s (Fw.val_fieldAddr fl30_0 rfl rfl) rfl ?_
          refine Fw.storeR sz2 rfl rfl HO1 (by rw [Hi.vals_len]; omega) rfl rfl ?_
          intro w6 N_ hc
          replace HQ := HQ.chg hc (by omega)
          replace HC := HC.chg hc hsep.1 hsep.2
          replace HB := HB.trans (hc.below (B := w.heap.size) (fun k e => by omega) HB.size)
          clear hc
          clear HO1 HE
          have HO1 := N_
          clear N_
          replace HO1 : w6.ownsRow w3.heap.size 30 5 (.slice (some ⟨gA, 0, none⟩) ((Hi.runL l).set i { (Hi.runL l)[i] with t := bits .xor .i64 (Hi.runL l)[i].t (IntKind.i64.wrap ((Hi.mask q.x.toNat j : Nat))) }).length cO1) ((Hi.runL l).set i { (Hi.runL l)[i] with t := bits .xor .i64 (Hi.runL l)[i].t (IntKind.i64.wrap ((Hi.mask q.x.toNat j : Nat))) }).length (Hi.vals ((Hi.runL l).set i { (Hi.runL l)[i] with t := bits .xor .i64 (Hi.runL l)[i].t (IntKind.i64.wrap ((Hi.mask q.x.toNat j : Nat))) })) := by
            rw [List.length_set, ← Hi.vals_set (Hi.runL l) i hi 0 (by decide) (.int .i64 (bits .xor .i64 (Hi.runL l)[i].t (IntKind.i64.wrap ((Hi.mask q.x.toNat j : Nat))))) { (Hi.runL l)[i] with t := bits .xor .i64 (Hi.runL l)[i].t (IntKind.i64.wrap ((Hi.mask q.x.toNat j : Nat))) } rfl]; exact HO1
          have hll : ((Hi.runL l).set i { (Hi.runL l)[i] with t := bits .xor .i64 (Hi.runL l)[i].t (IntKind.i64.wrap ((Hi.mask q.x.toNat j : Nat))) }).length = (Hi.runL l).length := List.length_set
          have hmod := Hi.mod_t (Hi.Vld.run l) hi hxb hj
          obtain ⟨L2, hL2⟩ : ∃ L2, (Hi.runL l).set i { (Hi.runL l)[i] with t := bits .xor .i64 (Hi.runL l)[i].t (IntKind.i64.wrap ((Hi.mask q.x.toNat j : Nat))) } = L2 := ⟨_, rfl⟩
          rw [hL2] at HO1 hll hmod
          rw [hll] at HO1
          clear hL2
          refine Fw.nil ?_
          refine Fw.X_blockN ?_
          refine hK12 _ _ (Fw.FC.sub (f' := [(9, _), (8, _), (5, _)]) (.cons rfl (.cons rfl (.cons rfl .nil))) ?_)
          refine Fw.seq fun _ hK16 => ?_
          refine Fw.region ?_
          refine Fw.s (Fw.val_move rfl) rfl ?_
          have hv_ := verify_any w6 (some ⟨gA, 0, none⟩) L2 cO1 (Rd.of_own HO1) (by omega)
          rw [hll] at hv_
          refine Fw.call cf15 rfl rfl (hv_) ?_
          rintro e_ w7 ⟨rfl, hb⟩
          refine ⟨_, rfl, ?_⟩
          replace HQ := HQ.low hb
          replace HC := HC.low hb
          replace HO1 := own_below HO1 hb (Nat.le_refl _)
          replace HB := HB.trans (hb.mono HB.size)
          clear hb
          refine Fw.s (Fw.val_assign rfl) rfl ?_
          refine Fw.nil ?_
          refine hK16 _ _ ?_
          refine Fw.seq fun _ hK17 => ?_
          refine Fw.region ?_
          refine Fw.s (Fw.val_move rfl) rfl ?_
          refine Fw.s (Fw.val_move rfl) rfl ?_
          refine Fw.s (Fw.Val.T (Fw.val_bin rfl rfl Fw.b_eql) (by exact hmod.1)) rfl ?_
          refine Fw.s (Fw.val_move rfl) rfl ?_
          refine Fw.gT (d := 124) rfl rfl ?_
          refine Fw.s (Fw.val_move rfl) rfl ?_
          refine Fw.gT (d := 124) rfl rfl ?_
          refine Fw.s (Fw.val_move rfl) rfl ?_
          refine Fw.gT (d := 124) rfl rfl ?_
          refine Fw.call cf20 rfl rfl (all_any _ w1.heap.size w1.heap.size gM (Hi.runL l) HC (by omega)) ?_
          rintro e_ w8 ⟨AO2, cO2, rfl, HO2, hb⟩
          refine ⟨_, rfl, ?_⟩
          replace HQ := HQ.low hb
          replace HC := HC.low hb
          replace HO1 := own_below HO1 hb (Nat.le_refl _)
          replace HB := HB.trans (hb.mono HB.size)
          clear hb
          refine Fw.gT (d := 124) rfl rfl ?_
          have hd_ := diverge_any w8 (some ⟨gA, 0, none⟩) L2 cO1 AO2 (Hi.runL l) cO2 (Rd.of_own HO1) (Rd.of_own HO2) (by omega) (by omega)
          rw [hll] at hd_
          refine Fw.call cf18 rfl rfl (hd_) ?_
          rintro e_ w9 ⟨rfl, hb⟩
          refine ⟨_, rfl, ?_⟩
          replace HQ := HQ.low hb
          replace HC := HC.low hb
          replace HO1 := own_below HO1 hb (Nat.le_refl _)
          replace HO2 := own_below HO2 hb (Nat.le_refl _)
          replace HB := HB.trans (hb.mono HB.size)
          clear hb
          refine Fw.gT (d := 124) rfl rfl ?_
          refine Fw.s (Fw.val_move rfl) rfl ?_
          refine Fw.gT (d := 124) rfl rfl ?_
          refine Fw.s (Fw.Val.T (Fw.val_bin rfl rfl Fw.b_eql) (by exact hmod.2)) rfl ?_
          refine Fw.s (Fw.val_pickT rfl rfl) rfl ?_
          refine Fw.s (Fw.val_assign rfl) rfl ?_
          refine Fw.nil ?_
          refine hK17 _ _ (Fw.FC.sub (f' := [(4, _)]) (.cons rfl .nil) ?_)
          refine Fw.ret ?_
          refine Fw.ret_ [.tmp 4] [_] Try.results7 (.tmp rfl .nil) ?_
          exact ⟨rfl, HB⟩
        · rintro hn0
          refine Fw.s (Fw.val_assign rfl) rfl ?_
          refine Fw.nil ?_
          refine hK14 _ _ ?_
          refine Fw.condF rfl ?_
          refine Fw.seq fun _ hK18 => ?_
          refine Fw.region ?_
          refine Fw.s2 (Fw.val_bin rfl rfl Fw.b_eql) rfl ?_ ?_
          · rintro hn1
            refine Fw.s (Fw.val_assign rfl) rfl ?_
            refine Fw.nil ?_
            refine hK18 _ _ (Fw.FC.sub (f' := [(88, _), (68, _), (11, _), (10, _), (9, _), (8, _), (5, _)]) (.cons rfl (.cons rfl (.cons rfl (.cons rfl (.cons rfl (.cons rfl (.cons rfl .nil))))))) ?_)
            refine Fw.condT rfl ?_
            refine Fw.region ?_
            refine Fw.s (Fw.val_move rfl) rfl ?_
            refine Fw.s (Fw.val_nil rfl) rfl ?_
            refine Fw.s (Fw.val_fieldAddr fl30_1 rfl rfl) rfl ?_
            refine Fw.ld sc2 rfl (Fw.rdCell HE 1 rfl) rfl ?_
            refine Fw.s (Fw.val_move rfl) rfl ?_
            refine Fw.s (Fw.val_conv Try.underlying28 Try.underlying2 rfl (rfl)) rfl ?_
            refine Fw.s (Fw.val_bin rfl rfl (Fw.b_xor rfl)) rfl ?_
            refine Fw.s (Fw.val_nil rfl) rfl ?_
            refine Fw.s (Fw.val_fieldAddr fl30_1 rfl rfl) rfl ?_
            refine Fw.storeR sz2 rfl rfl HO1 (by rw [Hi.vals_len]; omega) rfl rfl ?_
            intro w10 N_ hc
            replace HQ := HQ.chg hc (by omega)
            replace HC := HC.chg hc hsep.1 hsep.2
            replace HB := HB.trans (hc.below (B := w.heap.size) (fun k e => by omega) HB.size)
            clear hc
            clear HO1 HE
            have HO1 := N_
            clear N_
            replace HO1 : w10.ownsRow w3.heap.size 30 5 (.slice (some ⟨gA, 0, none⟩) ((Hi.runL l).set i { (Hi.runL l)[i] with e := bits .xor .i64 (Hi.runL l)[i].e (IntKind.i64.wrap ((Hi.mask q.x.toNat j : Nat))) }).length cO1) ((Hi.runL l).set i { (Hi.runL l)[i] with e := bits .xor .i64 (Hi.runL l)[i].e (IntKind.i64.wrap ((Hi.mask q.x.toNat j : Nat))) }).length (Hi.vals ((Hi.runL l).set i { (Hi.runL l)[i] with e := bits .xor .i64 (Hi.runL l)[i].e (IntKind.i64.wrap ((Hi.mask q.x.toNat j : Nat))) })) := by
              rw [List.length_set, ← Hi.vals_set (Hi.runL l) i hi 1 (by decide) (.int .i64 (bits .xor .i64 (Hi.runL l)[i].e (IntKind.i64.wrap ((Hi.mask q.x.toNat j : Nat))))) { (Hi.runL l)[i] with e := bits .xor .i64 (Hi.runL l)[i].e (IntKind.i64.wrap ((Hi.mask q.x.toNat j : Nat))) } rfl]; exact HO1
            have hll : ((Hi.runL l).set i { (Hi.runL l)[i] with e := bits .xor .i64 (Hi.runL l)[i].e (IntKind.i64.wrap ((Hi.mask q.x.toNat j : Nat))) }).length = (Hi.runL l).length := List.length_set
            have hmod := Hi.mod_e (Hi.Vld.run l) hi hxb hj
            obtain ⟨L2, hL2⟩ : ∃ L2, (Hi.runL l).set i { (Hi.runL l)[i] with e := bits .xor .i64 (Hi.runL l)[i].e (IntKind.i64.wrap ((Hi.mask q.x.toNat j : Nat))) } = L2 := ⟨_, rfl⟩
            rw [hL2] at HO1 hll hmod
            rw [hll] at HO1
            clear hL2
            refine Fw.nil ?_
            refine Fw.X_blockN ?_
            refine hK12 _ _ (Fw.FC.sub (f' := [(9, _), (8, _), (5, _)]) (.cons rfl (.cons rfl (.cons rfl .nil))) ?_)
            refine Fw.seq fun _ hK20 => ?_
            refine Fw.region ?_
            refine Fw.s (Fw.val_move rfl) rfl ?_
            have hv_ := verify_any w10 (some ⟨gA, 0, none⟩) L2 cO1 (Rd.of_own HO1) (by omega)
            rw [hll] at hv_
            refine Fw.call cf15 rfl rfl (hv_) ?_
            rintro e_ w11 ⟨rfl, hb⟩
            refine ⟨_, rfl, ?_⟩
            replace HQ := HQ.low hb
            replace HC := HC.low hb
            replace HO1 := own_below HO1 hb (Nat.le_refl _)
            replace HB := HB.trans (hb.mono HB.size)
            clear hb
            refine Fw.s (Fw.val_assign rfl) rfl ?_
            refine Fw.nil ?_
            refine hK20 _ _ ?_
            refine Fw.seq fun _ hK21 => ?_
            refine Fw.region ?_
            refine Fw.s (Fw.val_move rfl) rfl ?_
            refine Fw.s (Fw.val_move rfl) rfl ?_
            refine Fw.s (Fw.Val.T (Fw.val_bin rfl rfl Fw.b_eql) (by exact hmod.1)) rfl ?_
            refine Fw.s (Fw.val_move rfl) rfl ?_
            refine Fw.gT (d := 124) rfl rfl ?_
            refine Fw.s (Fw.val_move rfl) rfl ?_
            refine Fw.gT (d := 124) rfl rfl ?_
            refine Fw.s (Fw.val_move rfl) rfl ?_
            refine Fw.gT (d := 124) rfl rfl ?_
            refine Fw.call cf20 rfl rfl (all_any _ w1.heap.size w1.heap.size gM (Hi.runL l) HC (by omega)) ?_
            rintro e_ w12 ⟨AO2, cO2, rfl, HO2, hb⟩
            refine ⟨_, rfl, ?_⟩
            replace HQ := HQ.low hb
            replace HC := HC.low hb
            replace HO1 := own_below HO1 hb (Nat.le_refl _)
            replace HB := HB.trans (hb.mono HB.size)
            clear hb
            refine Fw.gT (d := 124) rfl rfl ?_
            have hd_ := diverge_any w12 (some ⟨gA, 0, none⟩) L2 cO1 AO2 (Hi.runL l) cO2 (Rd.of_own HO1) (Rd.of_own HO2) (by omega) (by omega)
            rw [hll] at hd_
            refine Fw.call cf18 rfl rfl (hd_) ?_
            rintro e_ w13 ⟨rfl, hb⟩
            refine ⟨_, rfl, ?_⟩
            replace HQ := HQ.low hb
            replace HC := HC.low hb
            replace HO1 := own_below HO1 hb (Nat.le_refl _)
            replace HO2 := own_below HO2 hb (Nat.le_refl _)
            replace HB := HB.trans (hb.mono HB.size)
            clear hb
            refine Fw.gT (d := 124) rfl rfl ?_
            refine Fw.s (Fw.val_move rfl) rfl ?_
            refine Fw.gT (d := 124) rfl rfl ?_
            refine Fw.s (Fw.Val.T (Fw.val_bin rfl rfl Fw.b_eql) (by exact hmod.2)) rfl ?_
            refine Fw.s (Fw.val_pickT rfl rfl) rfl ?_
            refine Fw.s (Fw.val_assign rfl) rfl ?_
            refine Fw.nil ?_
            refine hK21 _ _ (Fw.FC.sub (f' := [(4, _)]) (.cons rfl .nil) ?_)
            refine Fw.ret ?_
            refine Fw.ret_ [.tmp 4] [_] Try.results7 (.tmp rfl .nil) ?_
            exact ⟨rfl, HB⟩
          · rintro hn1
            refine Fw.s (Fw.val_assign rfl) rfl ?_
            refine Fw.nil ?_
            refine hK18 _ _ (Fw.FC.sub (f' := [(88, _), (68, _), (11, _), (10, _), (9, _), (8, _), (5, _)]) (.cons rfl (.cons rfl (.cons rfl (.cons rfl (.cons rfl (.cons rfl (.cons rfl .nil))))))) ?_)
            refine Fw.condF rfl ?_
            refine Fw.seq fun _ hK22 => ?_
            refine Fw.region ?_
            refine Fw.s2 (Fw.val_bin rfl rfl Fw.b_eql) rfl ?_ ?_
            · rintro hn2
              refine Fw.s (Fw.val_assign rfl) rfl ?_
              refine Fw.nil ?_
              refine hK22 _ _ ?_
              refine Fw.condT rfl ?_
              refine Fw.region ?_
              refine Fw.s (Fw.val_move rfl) rfl ?_
              refine Fw.s (Fw.val_nil rfl) rfl ?_
              refine Fw.s (Fw.val_fieldAddr fl30_2 rfl rfl) rfl ?_
              refine Fw.ld sc28 rfl (Fw.rdCell HE 2 rfl) rfl ?_
              refine Fw.s (Fw.val_move rfl) rfl ?_
              refine Fw.s (Fw.val_bin rfl rfl (Fw.b_xor rfl)) rfl ?_
              refine Fw.s (Fw.val_nil rfl) rfl ?_
              refine Fw.s (Fw.val_fieldAddr fl30_2 rfl rfl) rfl ?_
              refine Fw.storeR sz28 rfl rfl HO1 (by rw [Hi.vals_len]; omega) rfl rfl ?_
              intro w14 N_ hc
              replace HQ := HQ.chg hc (by omega)
              replace HC := HC.chg hc hsep.1 hsep.2
              replace HB := HB.trans (hc.below (B := w.heap.size) (fun k e => by omega) HB.size)
              clear hc
              clear HO1 HE
              have HO1 := N_
              clear N_
              replace HO1 : w14.ownsRow w3.heap.size 30 5 (.slice (some ⟨gA, 0, none⟩) ((Hi.runL l).set i { (Hi.runL l)[i] with b := bits .xor .u64 (Hi.runL l)[i].b ((Hi.mask q.x.toNat j : Nat)) }).length cO1) ((Hi.runL l).set i { (Hi.runL l)[i] with b := bits .xor .u64 (Hi.runL l)[i].b ((Hi.mask q.x.toNat j : Nat)) }).length (Hi.vals ((Hi.runL l).set i { (Hi.runL l)[i] with b := bits .xor .u64 (Hi.runL l)[i].b ((Hi.mask q.x.toNat j : Nat)) })) := by
                rw [List.length_set, ← Hi.vals_set (Hi.runL l) i hi 2 (by decide) (.int .u64 (bits .xor .u64 (Hi.runL l)[i].b ((Hi.mask q.x.toNat j : Nat)))) { (Hi.runL l)[i] with b := bits .xor .u64 (Hi.runL l)[i].b ((Hi.mask q.x.toNat j : Nat)) } rfl]; exact HO1
              have hll : ((Hi.runL l).set i { (Hi.runL l)[i] with b := bits .xor .u64 (Hi.runL l)[i].b ((Hi.mask q.x.toNat j : Nat)) }).length = (Hi.runL l).length := List.length_set
              have hmod := Hi.mod_b (Hi.Vld.run l) hi hxb hj (Hi.run_ok hok _ (List.getElem_mem hi))
              obtain ⟨L2, hL2⟩ : ∃ L2, (Hi.runL l).set i { (Hi.runL l)[i] with b := bits .xor .u64 (Hi.runL l)[i].b ((Hi.mask q.x.toNat j : Nat)) } = L2 := ⟨_, rfl⟩
              rw [hL2] at HO1 hll hmod
              rw [hll] at HO1
              clear hL2
              refine Fw.nil ?_
              refine Fw.X_blockN ?_
              refine hK12 _ _ (Fw.FC.sub (f' := [(9, _), (8, _), (5, _)]) (.cons rfl (.cons rfl (.cons rfl .nil))) ?_)
              refine Fw.seq fun _ hK24 => ?_
              refine Fw.region ?_
              refine Fw.s (Fw.val_move rfl) rfl ?_
              have hv_ := verify_any w14 (some ⟨gA, 0, none⟩) L2 cO1 (Rd.of_own HO1) (by omega)
              rw [hll] at hv_
              refine Fw.call cf15 rfl rfl (hv_) ?_
              rintro e_ w15 ⟨rfl, hb⟩
              refine ⟨_, rfl, ?_⟩
              replace HQ := HQ.low hb
              replace HC := HC.low hb
              replace HO1 := own_below HO1 hb (Nat.le_refl _)
              replace HB := HB.trans (hb.mono HB.size)
              clear hb
              refine Fw.s (Fw.val_assign rfl) rfl ?_
              refine Fw.nil ?_
              refine hK24 _ _ ?_
              refine Fw.seq fun _ hK25 => ?_
              refine Fw.region ?_
              refine Fw.s (Fw.val_move rfl) rfl ?_
              refine Fw.s (Fw.val_move rfl) rfl ?_
              refine Fw.s (Fw.Val.T (Fw.val_bin rfl rfl Fw.b_eql) (by exact hmod.1)) rfl ?_
              refine Fw.s (Fw.val_move rfl) rfl ?_
              refine Fw.gT (d := 124) rfl rfl ?_
              refine Fw.s (Fw.val_move rfl) rfl ?_
              refine Fw.gT (d := 124) rfl rfl ?_
              refine Fw.s (Fw.val_move rfl) rfl ?_
              refine Fw.gT (d := 124) rfl rfl ?_
              refine Fw.call cf20 rfl rfl (all_any _ w1.heap.size w1.heap.size gM (Hi.runL l) HC (by omega)) ?_
              rintro e_ w16 ⟨AO2, cO2, rfl, HO2, hb⟩
              refine ⟨_, rfl, ?_⟩
              replace HQ := HQ.low hb
              replace HC := HC.low hb
              replace HO1 := own_below HO1 hb (Nat.le_refl _)
              replace HB := HB.trans (hb.mono HB.size)
              clear hb
              refine Fw.gT (d := 124) rfl rfl ?_
              have hd_ := diverge_any w16 (some ⟨gA, 0, none⟩) L2 cO1 AO2 (Hi.runL l) cO2 (Rd.of_own HO1) (Rd.of_own HO2) (by omega) (by omega)
              rw [hll] at hd_
              refine Fw.call cf18 rfl rfl (hd_) ?_
              rintro e_ w17 ⟨rfl, hb⟩
              refine ⟨_, rfl, ?_⟩
              replace HQ := HQ.low hb
              replace HC := HC.low hb
              replace HO1 := own_below HO1 hb (Nat.le_refl _)
              replace HO2 := own_below HO2 hb (Nat.le_refl _)
              replace HB := HB.trans (hb.mono HB.size)
              clear hb
              refine Fw.gT (d := 124) rfl rfl ?_
              refine Fw.s (Fw.val_move rfl) rfl ?_
              refine Fw.gT (d := 124) rfl rfl ?_
              refine Fw.s (Fw.Val.T (Fw.val_bin rfl rfl Fw.b_eql) (by exact hmod.2)) rfl ?_
              refine Fw.s (Fw.val_pickT rfl rfl) rfl ?_
              refine Fw.s (Fw.val_assign rfl) rfl ?_
              refine Fw.nil ?_
              refine hK25 _ _ (Fw.FC.sub (f' := [(4, _)]) (.cons rfl .nil) ?_)
              refine Fw.ret ?_
              refine Fw.ret_ [.tmp 4] [_] Try.results7 (.tmp rfl .nil) ?_
              exact ⟨rfl, HB⟩
            · rintro hn2
              refine Fw.s (Fw.val_assign rfl) rfl ?_
              refine Fw.nil ?_
              refine hK22 _ _ ?_
              refine Fw.condF rfl ?_
              refine Fw.seq fun _ hK26 => ?_
              refine Fw.region ?_
              refine Fw.s2 (Fw.val_bin rfl rfl Fw.b_eql) rfl ?_ ?_
              · rintro hn3
                refine Fw.s (Fw.val_assign rfl) rfl ?_
                refine Fw.nil ?_
                refine hK26 _ _ ?_
                refine Fw.condT rfl ?_
                refine Fw.region ?_
                refine Fw.s (Fw.val_move rfl) rfl ?_
                refine Fw.s (Fw.val_nil rfl) rfl ?_
                refine Fw.s (Fw.val_fieldAddr fl30_3 rfl rfl) rfl ?_
                refine Fw.ld sc28 rfl (Fw.rdCell HE 3 rfl) rfl ?_
                refine Fw.s (Fw.val_move rfl) rfl ?_
                refine Fw.s (Fw.val_bin rfl rfl (Fw.b_xor rfl)) rfl ?_
                refine Fw.s (Fw.val_nil rfl) rfl ?_
                refine Fw.s (Fw.val_fieldAddr fl30_3 rfl rfl) rfl ?_
                refine Fw.storeR sz28 rfl rfl HO1 (by rw [Hi.vals_len]; omega) rfl rfl ?_
                intro w18 N_ hc
                replace HQ := HQ.chg hc (by omega)
                replace HC := HC.chg hc hsep.1 hsep.2
                replace HB := HB.trans (hc.below (B := w.heap.size) (fun k e => by omega) HB.size)
                clear hc
                clear HO1 HE
                have HO1 := N_
                clear N_
                replace HO1 : w18.ownsRow w3.heap.size 30 5 (.slice (some ⟨gA, 0, none⟩) ((Hi.runL l).set i { (Hi.runL l)[i] with d := bits .xor .u64 (Hi.runL l)[i].d ((Hi.mask q.x.toNat j : Nat)) }).length cO1) ((Hi.runL l).set i { (Hi.runL l)[i] with d := bits .xor .u64 (Hi.runL l)[i].d ((Hi.mask q.x.toNat j : Nat)) }).length (Hi.vals ((Hi.runL l).set i { (Hi.runL l)[i] with d := bits .xor .u64 (Hi.runL l)[i].d ((Hi.mask q.x.toNat j : Nat)) })) := by
                  rw [List.length_set, ← Hi.vals_set (Hi.runL l) i hi 3 (by decide) (.int .u64 (bits .xor .u64 (Hi.runL l)[i].d ((Hi.mask q.x.toNat j : Nat)))) { (Hi.runL l)[i] with d := bits .xor .u64 (Hi.runL l)[i].d ((Hi.mask q.x.toNat j : Nat)) } rfl]; exact HO1
                have hll : ((Hi.runL l).set i { (Hi.runL l)[i] with d := bits .xor .u64 (Hi.runL l)[i].d ((Hi.mask q.x.toNat j : Nat)) }).length = (Hi.runL l).length := List.length_set
                have hmod := Hi.mod_d (Hi.Vld.run l) hi hxb hj (Hi.run_ok hok _ (List.getElem_mem hi))
                obtain ⟨L2, hL2⟩ : ∃ L2, (Hi.runL l).set i { (Hi.runL l)[i] with d := bits .xor .u64 (Hi.runL l)[i].d ((Hi.mask q.x.toNat j : Nat)) } = L2 := ⟨_, rfl⟩
                rw [hL2] at HO1 hll hmod
                rw [hll] at HO1
                clear hL2
                refine Fw.nil ?_
                refine Fw.X_blockN ?_
                refine hK12 _ _ (Fw.FC.sub (f' := [(9, _), (8, _), (5, _)]) (.cons rfl (.cons rfl (.cons rfl .nil))) ?_)
                refine Fw.seq fun _ hK28 => ?_
                refine Fw.region ?_
                refine Fw.s (Fw.val_move rfl) rfl ?_
                have hv_ := verify_any w18 (some ⟨gA, 0, none⟩) L2 cO1 (Rd.of_own HO1) (by omega)
                rw [hll] at hv_
                refine Fw.call cf15 rfl rfl (hv_) ?_
                rintro e_ w19 ⟨rfl, hb⟩
                refine ⟨_, rfl, ?_⟩
                replace HQ := HQ.low hb
                replace HC := HC.low hb
                replace HO1 := own_below HO1 hb (Nat.le_refl _)
                replace HB := HB.trans (hb.mono HB.size)
                clear hb
                refine Fw.s (Fw.val_assign rfl) rfl ?_
                refine Fw.nil ?_
                refine hK28 _ _ ?_
                refine Fw.seq fun _ hK29 => ?_
                refine Fw.region ?_
                refine Fw.s (Fw.val_move rfl) rfl ?_
                refine Fw.s (Fw.val_move rfl) rfl ?_
                refine Fw.s (Fw.Val.T (Fw.val_bin rfl rfl Fw.b_eql) (by exact hmod.1)) rfl ?_
                refine Fw.s (Fw.val_move rfl) rfl ?_
                refine Fw.gT (d := 124) rfl rfl ?_
                refine Fw.s (Fw.val_move rfl) rfl ?_
                refine Fw.gT (d := 124) rfl rfl ?_
                refine Fw.s (Fw.val_move rfl) rfl ?_
                refine Fw.gT (d := 124) rfl rfl ?_
                refine Fw.call cf20 rfl rfl (all_any _ w1.heap.size w1.heap.size gM (Hi.runL l) HC (by omega)) ?_
                rintro e_ w20 ⟨AO2, cO2, rfl, HO2, hb⟩
                refine ⟨_, rfl, ?_⟩
                replace HQ := HQ.low hb
                replace HC := HC.low hb
                replace HO1 := own_below HO1 hb (Nat.le_refl _)
                replace HB := HB.trans (hb.mono HB.size)
                clear hb
                refine Fw.gT (d := 124) rfl rfl ?_
                have hd_ := diverge_any w20 (some ⟨gA, 0, none⟩) L2 cO1 AO2 (Hi.runL l) cO2 (Rd.of_own HO1) (Rd.of_own HO2) (by omega) (by omega)
                rw [hll] at hd_
                refine Fw.call cf18 rfl rfl (hd_) ?_
                rintro e_ w21 ⟨rfl, hb⟩
                refine ⟨_, rfl, ?_⟩
                replace HQ := HQ.low hb
                replace HC := HC.low hb
                replace HO1 := own_below HO1 hb (Nat.le_refl _)
                replace HO2 := own_below HO2 hb (Nat.le_refl _)
                replace HB := HB.trans (hb.mono HB.size)
                clear hb
                refine Fw.gT (d := 124) rfl rfl ?_
                refine Fw.s (Fw.val_move rfl) rfl ?_
                refine Fw.gT (d := 124) rfl rfl ?_
                refine Fw.s (Fw.Val.T (Fw.val_bin rfl rfl Fw.b_eql) (by exact hmod.2)) rfl ?_
                refine Fw.s (Fw.val_pickT rfl rfl) rfl ?_
                refine Fw.s (Fw.val_assign rfl) rfl ?_
                refine Fw.nil ?_
                refine hK29 _ _ (Fw.FC.sub (f' := [(4, _)]) (.cons rfl .nil) ?_)
                refine Fw.ret ?_
                refine Fw.ret_ [.tmp 4] [_] Try.results7 (.tmp rfl .nil) ?_
                exact ⟨rfl, HB⟩
              · rintro hn3
                refine Fw.s (Fw.val_assign rfl) rfl ?_
                refine Fw.nil ?_
                refine hK26 _ _ ?_
                refine Fw.condF rfl ?_
                refine Fw.region ?_
                refine Fw.s (Fw.val_move rfl) rfl ?_
                refine Fw.s (Fw.val_nil rfl) rfl ?_
                refine Fw.s (Fw.val_fieldAddr fl30_4 rfl rfl) rfl ?_
                refine Fw.ld sc28 rfl (Fw.rdCell HE 4 rfl) rfl ?_
                refine Fw.s (Fw.val_move rfl) rfl ?_
                refine Fw.s (Fw.val_bin rfl rfl (Fw.b_xor rfl)) rfl ?_
                refine Fw.s (Fw.val_nil rfl) rfl ?_
                refine Fw.s (Fw.val_fieldAddr fl30_4 rfl rfl) rfl ?_
                refine Fw.storeR sz28 rfl rfl HO1 (by rw [Hi.vals_len]; omega) rfl rfl ?_
                intro w22 N_ hc
                replace HQ := HQ.chg hc (by omega)
                replace HC := HC.chg hc hsep.1 hsep.2
                replace HB := HB.trans (hc.below (B := w.heap.size) (fun k e => by omega) HB.size)
                clear hc
                clear HO1 HE
                have HO1 := N_
                clear N_
                replace HO1 : w22.ownsRow w3.heap.size 30 5 (.slice (some ⟨gA, 0, none⟩) ((Hi.runL l).set i { (Hi.runL l)[i] with s := bits .xor .u64 (Hi.runL l)[i].s ((Hi.mask q.x.toNat j : Nat)) }).length cO1) ((Hi.runL l).set i { (Hi.runL l)[i] with s := bits .xor .u64 (Hi.runL l)[i].s ((Hi.mask q.x.toNat j : Nat)) }).length (Hi.vals ((Hi.runL l).set i { (Hi.runL l)[i] with s := bits .xor .u64 (Hi.runL l)[i].s ((Hi.mask q.x.toNat j : Nat)) })) := by
                  rw [List.length_set, ← Hi.vals_set (Hi.runL l) i hi 4 (by decide) (.int .u64 (bits .xor .u64 (Hi.runL l)[i].s ((Hi.mask q.x.toNat j : Nat)))) { (Hi.runL l)[i] with s := bits .xor .u64 (Hi.runL l)[i].s ((Hi.mask q.x.toNat j : Nat)) } rfl]; exact HO1
                have hll : ((Hi.runL l).set i { (Hi.runL l)[i] with s := bits .xor .u64 (Hi.runL l)[i].s ((Hi.mask q.x.toNat j : Nat)) }).length = (Hi.runL l).length := List.length_set
                have hmod := Hi.mod_s (Hi.Vld.run l) hi hxb hj (Hi.run_ok hok _ (List.getElem_mem hi))
                obtain ⟨L2, hL2⟩ : ∃ L2, (Hi.runL l).set i { (Hi.runL l)[i] with s := bits .xor .u64 (Hi.runL l)[i].s ((Hi.mask q.x.toNat j : Nat)) } = L2 := ⟨_, rfl⟩
                rw [hL2] at HO1 hll hmod
                rw [hll] at HO1
                clear hL2
                refine Fw.nil ?_
                refine Fw.X_blockN ?_
                refine hK12 _ _ (Fw.FC.sub (f' := [(9, _), (8, _), (5, _)]) (.cons rfl (.cons rfl (.cons rfl .nil))) ?_)
                refine Fw.seq fun _ hK30 => ?_
                refine Fw.region ?_
                refine Fw.s (Fw.val_move rfl) rfl ?_
                have hv_ := verify_any w22 (some ⟨gA, 0, none⟩) L2 cO1 (Rd.of_own HO1) (by omega)
                rw [hll] at hv_
                refine Fw.call cf15 rfl rfl (hv_) ?_
                rintro e_ w23 ⟨rfl, hb⟩
                refine ⟨_, rfl, ?_⟩
                replace HQ := HQ.low hb
                replace HC := HC.low hb
                replace HO1 := own_below HO1 hb (Nat.le_refl _)
                replace HB := HB.trans (hb.mono HB.size)
                clear hb
                refine Fw.s (Fw.val_assign rfl) rfl ?_
                refine Fw.nil ?_
                refine hK30 _ _ ?_
                refine Fw.seq fun _ hK31 => ?_
                refine Fw.region ?_
                refine Fw.s (Fw.val_move rfl) rfl ?_
                refine Fw.s (Fw.val_move rfl) rfl ?_
                refine Fw.s (Fw.Val.T (Fw.val_bin rfl rfl Fw.b_eql) (by exact hmod.1)) rfl ?_
                refine Fw.s (Fw.val_move rfl) rfl ?_
                refine Fw.gT (d := 124) rfl rfl ?_
                refine Fw.s (Fw.val_move rfl) rfl ?_
                refine Fw.gT (d := 124) rfl rfl ?_
                refine Fw.s (Fw.val_move rfl) rfl ?_
                refine Fw.gT (d := 124) rfl rfl ?_
                refine Fw.call cf20 rfl rfl (all_any _ w1.heap.size w1.heap.size gM (Hi.runL l) HC (by omega)) ?_
                rintro e_ w24 ⟨AO2, cO2, rfl, HO2, hb⟩
                refine ⟨_, rfl, ?_⟩
                replace HQ := HQ.low hb
                replace HC := HC.low hb
                replace HO1 := own_below HO1 hb (Nat.le_refl _)
                replace HB := HB.trans (hb.mono HB.size)
                clear hb
                refine Fw.gT (d := 124) rfl rfl ?_
                have hd_ := diverge_any w24 (some ⟨gA, 0, none⟩) L2 cO1 AO2 (Hi.runL l) cO2 (Rd.of_own HO1) (Rd.of_own HO2) (by omega) (by omega)
                rw [hll] at hd_
                refine Fw.call cf18 rfl rfl (hd_) ?_
                rintro e_ w25 ⟨rfl, hb⟩
                refine ⟨_, rfl, ?_⟩
                replace HQ := HQ.low hb
                replace HC := HC.low hb
                replace HO1 := own_below HO1 hb (Nat.le_refl _)
                replace HO2 := own_below HO2 hb (Nat.le_refl _)
                replace HB := HB.trans (hb.mono HB.size)
                clear hb
                refine Fw.gT (d := 124) rfl rfl ?_
                refine Fw.s (Fw.val_move rfl) rfl ?_
                refine Fw.gT (d := 124) rfl rfl ?_
                refine Fw.s (Fw.Val.T (Fw.val_bin rfl rfl Fw.b_eql) (by exact hmod.2)) rfl ?_
                refine Fw.s (Fw.val_pickT rfl rfl) rfl ?_
                refine Fw.s (Fw.val_assign rfl) rfl ?_
                refine Fw.nil ?_
                refine hK31 _ _ (Fw.FC.sub (f' := [(4, _)]) (.cons rfl .nil) ?_)
                refine Fw.ret ?_
                refine Fw.ret_ [.tmp 4] [_] Try.results7 (.tmp rfl .nil) ?_
                exact ⟨rfl, HB⟩
  · by_cases hdummy : True
    · skip
      refine Fw.calls Try.func7 rfl Try.ntmps7 rfl ?_
      have HB := Below.refl (w.heap.size) w
      refine Fw.seq fun _ hK1 => ?_
      refine Fw.region ?_
      refine Fw.box rfl rfl ?_
      intro w1 gQ egQ HQ hb
      have lgQ : w.heap.size ≤ gQ := by have := HB.size; omega
      replace HB := HB.trans (hb.mono HB.size)
      clear hb
      clear egQ
      refine Fw.s (Fw.val_assign rfl) rfl ?_
      refine Fw.nil ?_
      refine hK1 _ _ ?_
      refine Fw.seq fun _ hK2 => ?_
      refine Fw.region ?_
      refine Fw.s (Fw.val_move rfl) rfl ?_
      refine Fw.call cf9 rfl rfl (run_big _ A l c (by omega)) ?_
      rintro e_ w2 ⟨rfl, hb⟩
      refine ⟨_, rfl, ?_⟩
      replace HQ := HQ.low hb
      replace HB := HB.trans (hb.mono HB.size)
      clear hb
      refine Fw.s (Fw.val_move rfl) rfl ?_
      refine Fw.s (Fw.val_extract rfl rfl) rfl ?_
      refine Fw.s (Fw.val_extract rfl rfl) rfl ?_
      refine Fw.s (Fw.val_extract rfl rfl) rfl ?_
      refine Fw.s (Fw.val_assign rfl) rfl ?_
      refine Fw.s (Fw.val_assign rfl) rfl ?_
      refine Fw.s (Fw.val_assign rfl) rfl ?_
      refine Fw.nil ?_
      refine hK2 _ _ (Fw.FC.sub (f' := [(6, _), (5, _), (3, _)]) (.cons rfl (.cons rfl (.cons rfl .nil))) ?_)
      refine Fw.seq fun _ hK3 => ?_
      refine Fw.seq fun _ hK4 => ?_
      refine Fw.region ?_
      refine Fw.call cf10 rfl rfl (awake_any _) ?_
      rintro e_ w3 ⟨rfl, hb⟩
      refine ⟨_, rfl, ?_⟩
      replace HQ := HQ.low hb
      replace HB := HB.trans (hb.mono HB.size)
      clear hb
      refine Fw.s (Fw.val_not rfl) rfl ?_
      refine Fw.s (Fw.val_move rfl) rfl ?_
      refine Fw.gT (d := 21) rfl rfl ?_
      refine Fw.s (Fw.val_move rfl) rfl ?_
      refine Fw.gT (d := 21) rfl rfl ?_
      refine Fw.s (Fw.val_bin rfl rfl (Fw.b_nilP Try.underlying23)) rfl ?_
      refine Fw.s (Fw.val_pickF rfl rfl) rfl ?_
      refine Fw.s (Fw.val_move rfl) rfl ?_
      refine Fw.gF (d := 25) rfl rfl rfl rfl ?_
      refine Fw.gF (d := 25) rfl rfl rfl rfl ?_
      refine Fw.gF (d := 25) rfl rfl rfl rfl ?_
      refine Fw.s (Fw.val_pickT rfl rfl) rfl ?_
      refine Fw.s (Fw.val_move rfl) rfl ?_
      refine Fw.gF (d := 30) rfl rfl rfl rfl ?_
      refine Fw.gF (d := 30) rfl rfl rfl rfl ?_
      refine Fw.gF (d := 30) rfl rfl rfl rfl ?_
      refine Fw.s (Fw.val_pickT rfl rfl) rfl ?_
      refine Fw.nil ?_
      refine hK4 _ _ (Fw.FC.sub (f' := [(34, _), (6, _), (5, _), (3, _)]) (.cons rfl (.cons rfl (.cons rfl (.cons rfl .nil)))) ?_)
      refine Fw.condT rfl ?_
      refine Fw.seq fun _ hK5 => ?_
      refine Fw.region ?_
      refine Fw.call cf10 rfl rfl (awake_any _) ?_
      rintro e_ w4 ⟨rfl, hb⟩
      refine ⟨_, rfl, ?_⟩
      replace HQ := HQ.low hb
      replace HB := HB.trans (hb.mono HB.size)
      clear hb
      refine Fw.s (Fw.val_assign rfl) rfl ?_
      refine Fw.nil ?_
      refine hK5 _ _ ?_
      refine Fw.ret ?_
      refine Fw.X_ret ?_
      refine Fw.ret_ [.tmp 4] [_] Try.results7 (.tmp rfl .nil) ?_
      exact ⟨rfl, HB⟩
    · exact absurd trivial hdummy

set_option maxRecDepth 100000 in
set_option maxHeartbeats 1000000 in
theorem appendOnly_walk (w : World) (A : Option Addr) (l : List Hi.V) (c : Nat) (h : Rd w A (Hi.vals l)) (hok : ∀ v ∈ l, v.ok) (A' : Option Addr) (l' : List Hi.V) (c' : Nat) (h' : Rd w A' (Hi.vals l')) (hok' : ∀ v ∈ l', v.ok) :
    Calls Try.prog 8 #[.slice A l.length c, .slice A' l'.length c'] w fun e w' => e = .returned (.bool true) ∧ Below w.heap.size w w' := by
  by_cases hl : l.length ≤ 60
  · have hrl := Hi.runL_len l
    by_cases hl' : l'.length ≤ 60
    · skip
      refine Fw.calls Try.func8 rfl Try.ntmps8 rfl ?_
      have HB := Below.refl (w.heap.size) w
      refine Fw.seq fun _ hK1 => ?_
      refine Fw.region ?_
      refine Fw.s (Fw.val_assign rfl) rfl ?_
      refine Fw.nil ?_
      refine hK1 _ _ ?_
      refine Fw.seq fun _ hK2 => ?_
      refine Fw.region ?_
      refine Fw.s (Fw.val_move rfl) rfl ?_
      refine Fw.call cf9 rfl rfl (run_any w A l c h hl) ?_
      rintro e_ w1 ⟨AM, cM, gM, rfl, HC, HM, hb⟩
      refine ⟨_, rfl, ?_⟩
      replace HB := HB.trans (hb.mono HB.size)
      clear hb
      refine Fw.s (Fw.val_move rfl) rfl ?_
      refine Fw.s (Fw.val_extract rfl rfl) rfl ?_
      refine Fw.s (Fw.val_extract rfl rfl) rfl ?_
      refine Fw.s (Fw.val_extract rfl rfl) rfl ?_
      refine Fw.s (Fw.val_assign rfl) rfl ?_
      refine Fw.s (Fw.val_assign rfl) rfl ?_
      refine Fw.s (Fw.val_assign rfl) rfl ?_
      refine Fw.nil ?_
      refine hK2 _ _ (Fw.FC.sub (f' := [(6, _), (5, _), (1, _)]) (.cons rfl (.cons rfl (.cons rfl .nil))) ?_)
      refine Fw.seq fun _ hK3 => ?_
      refine Fw.seq fun _ hK4 => ?_
      refine Fw.region ?_
      refine Fw.call cf10 rfl rfl (awake_any _) ?_
      rintro e_ w2 ⟨rfl, hb⟩
      refine ⟨_, rfl, ?_⟩
      replace HC := HC.low hb
      replace HM := HM.low hb
      replace HB := HB.trans (hb.mono HB.size)
      clear hb
      refine Fw.s (Fw.val_not rfl) rfl ?_
      refine Fw.s (Fw.val_move rfl) rfl ?_
      refine Fw.gT (d := 21) rfl rfl ?_
      refine Fw.s (Fw.val_move rfl) rfl ?_
      refine Fw.gT (d := 21) rfl rfl ?_
      refine Fw.s (Fw.val_bin rfl rfl (Fw.b_nilP Try.underlying23)) rfl ?_
      refine Fw.s (Fw.val_pickF rfl rfl) rfl ?_
      refine Fw.s (Fw.val_move rfl) rfl ?_
      refine Fw.gT (d := 25) rfl rfl ?_
      refine Fw.s (Fw.val_move rfl) rfl ?_
      refine Fw.gT (d := 25) rfl rfl ?_
      refine Fw.s (Fw.val_len Try.underlying22 rfl) rfl ?_
      refine Fw.gT (d := 25) rfl rfl ?_
      refine Fw.s (Fw.Val.F (Fw.val_bin rfl rfl Fw.b_gtr) (by omega)) rfl ?_
      refine Fw.s (Fw.val_pickF rfl rfl) rfl ?_
      refine Fw.nil ?_
      refine hK4 _ _ (Fw.FC.sub (f' := [(29, _), (6, _), (5, _), (1, _)]) (.cons rfl (.cons rfl (.cons rfl (.cons rfl .nil)))) ?_)
      refine Fw.condF rfl ?_
      refine Fw.skip ?_
      refine hK3 _ _ ?_
      refine Fw.seq fun _ hK5 => ?_
      have HCa := HC
      have HMa := HM
      have hwb := HB.size
      refine Fw.region ?_
      refine Fw.s (Fw.val_move rfl) rfl ?_
      refine Fw.call cf20 rfl rfl (all_any _ w.heap.size w.heap.size gM (Hi.runL l) HC (by omega)) ?_
      rintro e_ w3 ⟨AO1, cO1, rfl, HO1, hb⟩
      refine ⟨_, rfl, ?_⟩
      replace HC := HC.low hb
      replace HM := HM.low hb
      replace HB := HB.trans (hb.mono HB.size)
      clear hb
      refine Fw.s (Fw.val_assign rfl) rfl ?_
      refine Fw.nil ?_
      refine hK5 _ _ ?_
      refine Fw.seq fun _ hK6 => ?_
      refine Fw.seq fun _ hK7 => ?_
      have hMa : ∀ g, w2.heap.size ≤ g → ∀ ad, AM = some ad → ¬ ad.block = g := fun g hg ad e hh => by
        obtain ⟨cs_, fr_, h7_⟩ := HMa.2 ad e
        rw [Array.getElem?_eq_none (by omega)] at h7_; cases h7_
      refine Fw.region ?_
      refine Fw.s (Fw.val_move rfl) rfl ?_
      refine Fw.s (Fw.val_len Try.underlying38 rfl) rfl ?_
      refine Fw.s (Fw.val_move rfl) rfl ?_
      refine Fw.nil ?_
      refine hK7 _ _ ?_
      refine Fw.block ?_
      refine Fw.loop (fun m_ f_ W_ => ∃ (k : Nat) (T_ : List Hi.V), m_ = (Hi.runL l).length - k ∧ k ≤ (Hi.runL l).length ∧ T_.length = (Hi.runL l).length ∧ ChAt W_ w.heap.size w.heap.size gM (Hi.runL l) ∧ Fw.RdT W_ 33 AM (Hi.vals (Hi.runL l)) ∧ W_.ownsRow w2.heap.size 30 5 (.slice AO1 T_.length cO1) T_.length (Hi.vals T_) ∧ Below (w.heap.size) w W_ ∧ f_ = [(35, .int .i64 k), (34, .int .i64 (Hi.runL l).length), (8, .slice AO1 (Hi.runL l).length cO1), (6, .slice AM (Hi.runL l).length cM), (5, .pointer (some ⟨w.heap.size, 0, none⟩)), (1, .slice A' l'.length c')]) ⟨_, _, ⟨0, (Hi.runL l), rfl, Nat.zero_le _, rfl, HC, HM, HO1, HB, rfl⟩, (.cons rfl (.cons rfl (.cons rfl (.cons rfl (.cons rfl (.cons rfl .nil))))))⟩ ?_
      clear HC HM HO1 HB
      rintro m8_ _ w4 ⟨k, T_, hm8_, hkl, hTl, HC, HM, HO1, HB, rfl⟩
      refine Fw.seq fun _ hK9 => ?_
      refine Fw.region ?_
      refine Fw.s2 (Fw.val_bin rfl rfl Fw.b_lss) rfl ?_ ?_
      · rintro hk
        refine Fw.nil ?_
        refine hK9 _ _ ?_
        refine Fw.seq fun _ hK11 => ?_
        refine Fw.condT rfl ?_
        refine Fw.skip ?_
        refine hK11 _ _ ?_
        refine Fw.seq fun _ hK12 => ?_
        refine Fw.block ?_
        refine Fw.seq fun _ hK13 => ?_
        refine Fw.region ?_
        refine Fw.s (Fw.val_move rfl) rfl ?_
        refine Fw.s (Fw.val_assign rfl) rfl ?_
        refine Fw.nil ?_
        refine hK13 _ _ ?_
        have hkn : k < (Hi.runL l).length := by omega
        have hkt : k < T_.length := by omega
        refine Fw.region ?_
        refine Fw.s (Fw.val_move rfl) rfl ?_
        refine Fw.s (Fw.val_move rfl) rfl ?_
        obtain ⟨gA, hgA, hgb, hgl, hadd, HE⟩ := Fw.ownAt Hi.cells_len (by decide) HO1 k hkt rfl
        subst hgA
        have hsep := HCa.sep hgb
        have hsepm := hMa gA hgb
        have hgw : w.heap.size ≤ gA := Nat.le_trans hwb hgb
        refine Fw.s (Fw.val_indexR Try.underlying38 sz30 rfl rfl rfl rfl hkn hadd) rfl ?_
        refine Fw.s (Fw.val_fieldAddr fl30_4 rfl rfl) rfl ?_
        refine Fw.ld sc28 rfl (Fw.rdCell HE 4 rfl) rfl ?_
        refine Fw.s (Fw.val_bin rfl rfl (Fw.b_add rfl)) rfl ?_
        refine Fw.s (Fw.val_indexR Try.underlying38 sz30 rfl rfl rfl rfl hkn hadd) rfl ?_
        refine Fw.s (Fw.val_fieldAddr fl30_4 rfl rfl) rfl ?_
        refine Fw.storeR sz28 rfl rfl HO1 (by rw [Hi.vals_len]; omega) rfl rfl ?_
        intro w5 N_ hc
        replace HC := HC.chg hc hsep.1 hsep.2
        replace HM := HM.chg hc (fun ad_ e_ hh_ => hsepm ad_ e_ hh_)
        replace HB := HB.trans (hc.below (B := w.heap.size) (fun k e => by omega) HB.size)
        clear hc
        clear HO1 HE
        have HO1 := N_
        clear N_
        replace HO1 : w5.ownsRow w2.heap.size 30 5 (.slice (some ⟨gA, 0, none⟩) (T_.set k { T_[k] with s := IntKind.u64.wrap (T_[k].s + 1) }).length cO1) (T_.set k { T_[k] with s := IntKind.u64.wrap (T_[k].s + 1) }).length (Hi.vals (T_.set k { T_[k] with s := IntKind.u64.wrap (T_[k].s + 1) })) := by
          rw [List.length_set, ← Hi.vals_set T_ k hkt 4 (by decide) (.int .u64 (IntKind.u64.wrap (T_[k].s + 1))) { T_[k] with s := IntKind.u64.wrap (T_[k].s + 1) } rfl]; exact HO1
        refine Fw.nil ?_
        refine Fw.X_blockN ?_
        refine hK12 _ _ (Fw.FC.sub (f' := [(35, _), (34, _), (8, _), (6, _), (5, _), (1, _)]) (.cons rfl (.cons rfl (.cons rfl (.cons rfl (.cons rfl (.cons rfl .nil)))))) ?_)
        refine Fw.region ?_
        refine Fw.s (Fw.val_bin rfl rfl (Fw.b_add (Fw.i64_ok (by omega)))) rfl ?_
        refine Fw.s (Fw.val_move rfl) rfl ?_
        refine Fw.nil ?_
        refine Fw.roundEnd _ _ (by omega) ⟨k + 1, T_.set k { T_[k] with s := IntKind.u64.wrap (T_[k].s + 1) }, rfl, hkn, (by rw [List.length_set]; exact hTl), HC, HM, HO1, HB, rfl⟩ (.cons rfl (.cons rfl (.cons rfl (.cons rfl (.cons rfl (.cons rfl .nil))))))
      · rintro hk
        refine Fw.nil ?_
        refine hK9 _ _ ?_
        refine Fw.seq fun _ hK16 => ?_
        refine Fw.condF rfl ?_
        refine Fw.exit ?_
        refine Fw.X_exit ?_
        refine Fw.X_exit ?_
        refine Fw.X_block ?_
        refine hK6 _ _ ?_
        refine Fw.seq fun _ hK17 => ?_
        refine Fw.seq fun _ hK18 => ?_
        refine Fw.region ?_
        refine Fw.s (Fw.val_move rfl) rfl ?_
        refine Fw.s (Fw.val_len Try.underlying22 rfl) rfl ?_
        refine Fw.s (Fw.val_move rfl) rfl ?_
        refine Fw.nil ?_
        refine hK18 _ _ ?_
        refine Fw.block ?_
        replace HC : ChAt w4 w.heap.size w.heap.size gM ((l'.take 0).foldl Hi.appL (Hi.runL l)) := HC
        refine Fw.loop (fun m_ f_ W_ => ∃ (k : Nat) (g_ : Option Nat), m_ = l'.length - k ∧ k ≤ l'.length ∧ ChAt W_ w.heap.size w.heap.size g_ ((l'.take k).foldl Hi.appL (Hi.runL l)) ∧ Fw.RdT W_ 33 AM (Hi.vals (Hi.runL l)) ∧ Below (w.heap.size) w W_ ∧ f_ = [(49, .int .i64 k), (48, .int .i64 l'.length), (47, .slice A' l'.length c'), (6, .slice AM (Hi.runL l).length cM), (5, .pointer (some ⟨w.heap.size, 0, none⟩))]) ⟨_, _, ⟨0, gM, rfl, Nat.zero_le _, HC, HM, HB, rfl⟩, (.cons rfl (.cons rfl (.cons rfl (.cons rfl (.cons rfl .nil)))))⟩ ?_
        clear HC HM HB
        rintro m19_ _ w6 ⟨k, g_, hm19_, hkl, HC, HM, HB, rfl⟩
        refine Fw.seq fun _ hK20 => ?_
        refine Fw.region ?_
        refine Fw.s2 (Fw.val_bin rfl rfl Fw.b_lss) rfl ?_ ?_
        · rintro hk
          refine Fw.nil ?_
          refine hK20 _ _ ?_
          refine Fw.seq fun _ hK22 => ?_
          refine Fw.condT rfl ?_
          refine Fw.skip ?_
          refine hK22 _ _ ?_
          refine Fw.seq fun _ hK23 => ?_
          refine Fw.block ?_
          refine Fw.seq fun _ hK24 => ?_
          have hkn : k < l'.length := by omega
          have hq0 := Hi.runL_len' (l'.take k) (Hi.runL l)
          have hq2 : (l'.take k).length ≤ k := by rw [List.length_take]; omega
          refine Fw.region ?_
          obtain ⟨ad, b, o, hA, hadd, HE⟩ := Fw.rdAt Hi.cells_len (by decide) (h'.low HB) k hkn
          refine Fw.s (Fw.val_indexR Try.underlying22 sz33 rfl hA rfl rfl hkn hadd) rfl ?_
          refine Fw.ldA ag33 rfl (HE) rfl rfl ?_
          refine Fw.alloc ze33 rfl ?_
          intro w7 gX11 egX11 HX11 hb
          have fr_HC_gX11 := HC.fresh egX11
          have fr_HM_gX11 := Fw.RdT.fresh HM egX11
          have lgX11 : w.heap.size ≤ gX11 := by have := HB.size; omega
          clear HE
          replace HC := HC.low hb
          replace HM := HM.low hb
          replace HB := HB.trans (hb.mono HB.size)
          clear hb
          clear egX11
          refine Fw.storeW sz33 rfl rfl HX11 rfl rfl (by exact Fw.oneCells rfl) ?_
          intro w8 N_ hc
          replace HC := HC.chg hc fr_HC_gX11.1 fr_HC_gX11.2
          replace HM := HM.chg hc fr_HM_gX11
          replace HB := HB.trans (hc.below (B := w.heap.size) (fun k e => by omega) HB.size)
          clear hc
          clear HX11
          have HX11 := N_
          clear N_
          refine Fw.nil ?_
          refine hK24 _ _ ?_
          refine Fw.region ?_
          refine Fw.s (Fw.val_move rfl) rfl ?_
          refine Fw.s (Fw.val_fieldAddr fl33_0 rfl rfl) rfl ?_
          refine Fw.ld sc2 rfl (HX11.cell 0) rfl ?_
          refine Fw.s (Fw.val_fieldAddr fl33_1 rfl rfl) rfl ?_
          refine Fw.ld sc2 rfl (HX11.cell 1) rfl ?_
          refine Fw.s (Fw.val_fieldAddr fl33_2 rfl rfl) rfl ?_
          refine Fw.ld sc28 rfl (HX11.cell 2) rfl ?_
          refine Fw.s (Fw.val_fieldAddr fl33_3 rfl rfl) rfl ?_
          refine Fw.ld sc28 rfl (HX11.cell 3) rfl ?_
          refine Fw.call cf21 rfl rfl (append_any _ w.heap.size w.heap.size g_ ((l'.take k).foldl Hi.appL (Hi.runL l)) l'[k] HC (by omega)) ?_
          rintro e_ w9 ⟨rfl, ht⟩
          refine ⟨_, rfl, ?_⟩
          have hkp := ChTo.kp HC ht
          replace HB := HB.trans (ChTo.below HC ht HB.size)
          clear HC
          obtain ⟨g2, HC⟩ := ht.at
          clear ht
          replace HM := HM.kp hkp rfl
          replace HX11 := HX11.kp hkp rfl
          clear hkp
          refine Fw.nil ?_
          refine Fw.X_blockN ?_
          refine hK23 _ _ (Fw.FC.sub (f' := [(49, _), (48, _), (47, _), (6, _), (5, _)]) (.cons rfl (.cons rfl (.cons rfl (.cons rfl (.cons rfl .nil))))) ?_)
          replace HC : ChAt w9 w.heap.size w.heap.size g2 ((l'.take (k + 1)).foldl Hi.appL (Hi.runL l)) := by
            rw [List.take_succ_eq_append_getElem hkn, List.foldl_append]; exact HC
          refine Fw.region ?_
          refine Fw.s (Fw.val_bin rfl rfl (Fw.b_add (Fw.i64_ok (by omega)))) rfl ?_
          refine Fw.s (Fw.val_move rfl) rfl ?_
          refine Fw.nil ?_
          refine Fw.roundEnd _ _ (by omega) ⟨k + 1, g2, rfl, hkn, HC, HM, HB, rfl⟩ (.cons rfl (.cons rfl (.cons rfl (.cons rfl (.cons rfl .nil)))))
        · rintro hk
          refine Fw.nil ?_
          refine hK20 _ _ ?_
          refine Fw.seq fun _ hK26 => ?_
          refine Fw.condF rfl ?_
          refine Fw.exit ?_
          refine Fw.X_exit ?_
          refine Fw.X_exit ?_
          refine Fw.X_block ?_
          refine hK17 _ _ ?_
          refine Fw.seq fun _ hK27 => ?_
          obtain rfl : k = l'.length := by omega
          rw [List.take_length] at HC
          have hq0 := Hi.runL_len' l' (Hi.runL l)
          obtain ⟨tl_, htl⟩ := Hi.fold_pre l' (Hi.runL l)
          have htl2 : (Hi.runL l).length + tl_.length = (l'.foldl Hi.appL (Hi.runL l)).length := by rw [← htl, List.length_append]
          refine Fw.region ?_
          refine Fw.s (Fw.val_move rfl) rfl ?_
          refine Fw.call cf20 rfl rfl (all_any _ w.heap.size w.heap.size g_ (l'.foldl Hi.appL (Hi.runL l)) HC (by omega)) ?_
          rintro e_ w10 ⟨AO2, cO2, rfl, HO2, hb⟩
          refine ⟨_, rfl, ?_⟩
          replace HC := HC.low hb
          replace HM := HM.low hb
          replace HB := HB.trans (hb.mono HB.size)
          clear hb
          refine Fw.s (Fw.val_assign rfl) rfl ?_
          refine Fw.nil ?_
          refine hK27 _ _ (Fw.FC.sub (f' := [(12, _), (6, _)]) (.cons rfl (.cons rfl .nil)) ?_)
          refine Fw.seq fun _ hK28 => ?_
          refine Fw.region ?_
          refine Fw.s (Fw.val_move rfl) rfl ?_
          refine Fw.s (Fw.val_len Try.underlying38 rfl) rfl ?_
          refine Fw.s (Fw.val_move rfl) rfl ?_
          refine Fw.s (Fw.val_len Try.underlying22 rfl) rfl ?_
          refine Fw.s (Fw.Val.T (Fw.val_bin rfl rfl Fw.b_geq) (by omega)) rfl ?_
          refine Fw.s (Fw.val_move rfl) rfl ?_
          refine Fw.gT (d := 71) rfl rfl ?_
          refine Fw.s (Fw.val_move rfl) rfl ?_
          refine Fw.gT (d := 71) rfl rfl ?_
          refine Fw.call cf15 rfl rfl (verify_any _ AO2 (l'.foldl Hi.appL (Hi.runL l)) cO2 (Rd.of_own HO2) (by omega)) ?_
          rintro e_ w11 ⟨rfl, hb⟩
          refine ⟨_, rfl, ?_⟩
          replace HC := HC.low hb
          replace HM := HM.low hb
          replace HO2 := own_below HO2 hb (Nat.le_refl _)
          replace HB := HB.trans (hb.mono HB.size)
          clear hb
          refine Fw.gT (d := 71) rfl rfl ?_
          refine Fw.s (Fw.Val.T (Fw.val_bin rfl rfl Fw.b_eql) (by exact ((Hi.Vld.run l).fold l').chk)) rfl ?_
          refine Fw.s (Fw.val_pickT rfl rfl) rfl ?_
          refine Fw.s (Fw.val_move rfl) rfl ?_
          refine Fw.gT (d := 76) rfl rfl ?_
          refine Fw.s (Fw.val_move rfl) rfl ?_
          refine Fw.gT (d := 76) rfl rfl ?_
          refine Fw.s (Fw.val_move rfl) rfl ?_
          refine Fw.gT (d := 76) rfl rfl ?_
          refine Fw.s (Fw.val_len Try.underlying22 rfl) rfl ?_
          refine Fw.gT (d := 76) rfl rfl ?_
          refine Fw.s (Fw.val_sliceTo (m := (Hi.runL l).length) Try.underlying38 sz30 rfl rfl rfl (by have := (own_cap HO2).1; omega)) rfl ?_
          refine Fw.gT (d := 76) rfl rfl ?_
          refine Fw.call cf14 rfl rfl (back_any _ AO2 (Hi.runL l) cO2 (Fw.rdPre (b := Hi.vals tl_) (by rw [← Hi.vals_append, htl]; exact Rd.of_own HO2)) (by omega)) ?_
          rintro e_ w12 ⟨AB, cB, rfl, HOB, hb⟩
          refine ⟨_, rfl, ?_⟩
          replace HC := HC.low hb
          replace HM := HM.low hb
          replace HO2 := own_below HO2 hb (Nat.le_refl _)
          replace HB := HB.trans (hb.mono HB.size)
          clear hb
          refine Fw.gT (d := 76) rfl rfl ?_
          refine Fw.s (Fw.val_move rfl) rfl ?_
          refine Fw.gT (d := 76) rfl rfl ?_
          refine Fw.call cf13 rfl rfl (rsame_any _ AB (Hi.runL l) cB AM (Hi.runL l) cM (Rd.of_own HOB) HM.1 (by omega) (by omega)) ?_
          rintro e_ w13 ⟨rfl, hb⟩
          refine ⟨_, rfl, ?_⟩
          replace HC := HC.low hb
          replace HM := HM.low hb
          replace HO2 := own_below HO2 hb (Nat.le_refl _)
          replace HOB := own_below HOB hb (Nat.le_refl _)
          replace HB := HB.trans (hb.mono HB.size)
          clear hb
          refine Fw.bT (by rw [Hi.apart_same]; rfl) ?_
          refine Fw.s (Fw.val_pickT rfl rfl) rfl ?_
          refine Fw.s (Fw.val_assign rfl) rfl ?_
          refine Fw.nil ?_
          refine hK28 _ _ (Fw.FC.sub (f' := [(4, _)]) (.cons rfl .nil) ?_)
          refine Fw.ret ?_
          refine Fw.ret_ [.tmp 4] [_] Try.results8 (.tmp rfl .nil) ?_
          exact ⟨rfl, HB⟩
    · skip
      refine Fw.calls Try.func8 rfl Try.ntmps8 rfl ?_
      have HB := Below.refl (w.heap.size) w
      refine Fw.seq fun _ hK1 => ?_
      refine Fw.region ?_
      refine Fw.s (Fw.val_assign rfl) rfl ?_
      refine Fw.nil ?_
      refine hK1 _ _ ?_
      refine Fw.seq fun _ hK2 => ?_
      refine Fw.region ?_
      refine Fw.s (Fw.val_move rfl) rfl ?_
      refine Fw.call cf9 rfl rfl (run_any w A l c h hl) ?_
      rintro e_ w1 ⟨AM, cM, gM, rfl, HC, HM, hb⟩
      refine ⟨_, rfl, ?_⟩
      replace HB := HB.trans (hb.mono HB.size)
      clear hb
      refine Fw.s (Fw.val_move rfl) rfl ?_
      refine Fw.s (Fw.val_extract rfl rfl) rfl ?_
      refine Fw.s (Fw.val_extract rfl rfl) rfl ?_
      refine Fw.s (Fw.val_extract rfl rfl) rfl ?_
      refine Fw.s (Fw.val_assign rfl) rfl ?_
      refine Fw.s (Fw.val_assign rfl) rfl ?_
      refine Fw.s (Fw.val_assign rfl) rfl ?_
      refine Fw.nil ?_
      refine hK2 _ _ (Fw.FC.sub (f' := [(6, _), (5, _), (1, _)]) (.cons rfl (.cons rfl (.cons rfl .nil))) ?_)
      refine Fw.seq fun _ hK3 => ?_
      refine Fw.seq fun _ hK4 => ?_
      refine Fw.region ?_
      refine Fw.call cf10 rfl rfl (awake_any _) ?_
      rintro e_ w2 ⟨rfl, hb⟩
      refine ⟨_, rfl, ?_⟩
      replace HC := HC.low hb
      replace HM := HM.low hb
      replace HB := HB.trans (hb.mono HB.size)
      clear hb
      refine Fw.s (Fw.val_not rfl) rfl ?_
      refine Fw.s (Fw.val_move rfl) rfl ?_
      refine Fw.gT (d := 21) rfl rfl ?_
      refine Fw.s (Fw.val_move rfl) rfl ?_
      refine Fw.gT (d := 21) rfl rfl ?_
      refine Fw.s (Fw.val_bin rfl rfl (Fw.b_nilP Try.underlying23)) rfl ?_
      refine Fw.s (Fw.val_pickF rfl rfl) rfl ?_
      refine Fw.s (Fw.val_move rfl) rfl ?_
      refine Fw.gT (d := 25) rfl rfl ?_
      refine Fw.s (Fw.val_move rfl) rfl ?_
      refine Fw.gT (d := 25) rfl rfl ?_
      refine Fw.s (Fw.val_len Try.underlying22 rfl) rfl ?_
      refine Fw.gT (d := 25) rfl rfl ?_
      refine Fw.s (Fw.Val.T (Fw.val_bin rfl rfl Fw.b_gtr) (by omega)) rfl ?_
      refine Fw.s (Fw.val_pickF rfl rfl) rfl ?_
      refine Fw.nil ?_
      refine hK4 _ _ (Fw.FC.sub (f' := [(29, _), (6, _), (5, _), (1, _)]) (.cons rfl (.cons rfl (.cons rfl (.cons rfl .nil)))) ?_)
      refine Fw.condT rfl ?_
      refine Fw.seq fun _ hK5 => ?_
      refine Fw.region ?_
      refine Fw.call cf10 rfl rfl (awake_any _) ?_
      rintro e_ w3 ⟨rfl, hb⟩
      refine ⟨_, rfl, ?_⟩
      replace HC := HC.low hb
      replace HM := HM.low hb
      replace HB := HB.trans (hb.mono HB.size)
      clear hb
      refine Fw.s (Fw.val_assign rfl) rfl ?_
      refine Fw.nil ?_
      refine hK5 _ _ ?_
      refine Fw.ret ?_
      refine Fw.X_ret ?_
      refine Fw.ret_ [.tmp 4] [_] Try.results8 (.tmp rfl .nil) ?_
      exact ⟨rfl, HB⟩
  · by_cases hdummy : True
    · skip
      refine Fw.calls Try.func8 rfl Try.ntmps8 rfl ?_
      have HB := Below.refl (w.heap.size) w
      refine Fw.seq fun _ hK1 => ?_
      refine Fw.region ?_
      refine Fw.s (Fw.val_assign rfl) rfl ?_
      refine Fw.nil ?_
      refine hK1 _ _ ?_
      refine Fw.seq fun _ hK2 => ?_
      refine Fw.region ?_
      refine Fw.s (Fw.val_move rfl) rfl ?_
      refine Fw.call cf9 rfl rfl (run_big w A l c (by omega)) ?_
      rintro e_ w1 ⟨rfl, hb⟩
      refine ⟨_, rfl, ?_⟩
      replace HB := HB.trans (hb.mono HB.size)
      clear hb
      refine Fw.s (Fw.val_move rfl) rfl ?_
      refine Fw.s (Fw.val_extract rfl rfl) rfl ?_
      refine Fw.s (Fw.val_extract rfl rfl) rfl ?_
      refine Fw.s (Fw.val_extract rfl rfl) rfl ?_
      refine Fw.s (Fw.val_assign rfl) rfl ?_
      refine Fw.s (Fw.val_assign rfl) rfl ?_
      refine Fw.s (Fw.val_assign rfl) rfl ?_
      refine Fw.nil ?_
      refine hK2 _ _ (Fw.FC.sub (f' := [(6, _), (5, _), (1, _)]) (.cons rfl (.cons rfl (.cons rfl .nil))) ?_)
      refine Fw.seq fun _ hK3 => ?_
      refine Fw.seq fun _ hK4 => ?_
      refine Fw.region ?_
      refine Fw.call cf10 rfl rfl (awake_any _) ?_
      rintro e_ w2 ⟨rfl, hb⟩
      refine ⟨_, rfl, ?_⟩
      replace HB := HB.trans (hb.mono HB.size)
      clear hb
      refine Fw.s (Fw.val_not rfl) rfl ?_
      refine Fw.s (Fw.val_move rfl) rfl ?_
      refine Fw.gT (d := 21) rfl rfl ?_
      refine Fw.s (Fw.val_move rfl) rfl ?_
      refine Fw.gT (d := 21) rfl rfl ?_
      refine Fw.s (Fw.val_bin rfl rfl (Fw.b_nilP Try.underlying23)) rfl ?_
      refine Fw.s (Fw.val_pickF rfl rfl) rfl ?_
      refine Fw.s (Fw.val_move rfl) rfl ?_
      refine Fw.gF (d := 25) rfl rfl rfl rfl ?_
      refine Fw.gF (d := 25) rfl rfl rfl rfl ?_
      refine Fw.gF (d := 25) rfl rfl rfl rfl ?_
      refine Fw.s (Fw.val_pickT rfl rfl) rfl ?_
      refine Fw.nil ?_
      refine hK4 _ _ (Fw.FC.sub (f' := [(29, _), (6, _), (5, _), (1, _)]) (.cons rfl (.cons rfl (.cons rfl (.cons rfl .nil)))) ?_)
      refine Fw.condT rfl ?_
      refine Fw.seq fun _ hK5 => ?_
      refine Fw.region ?_
      refine Fw.call cf10 rfl rfl (awake_any _) ?_
      rintro e_ w3 ⟨rfl, hb⟩
      refine ⟨_, rfl, ?_⟩
      replace HB := HB.trans (hb.mono HB.size)
      clear hb
      refine Fw.s (Fw.val_assign rfl) rfl ?_
      refine Fw.nil ?_
      refine hK5 _ _ ?_
      refine Fw.ret ?_
      refine Fw.X_ret ?_
      refine Fw.ret_ [.tmp 4] [_] Try.results8 (.tmp rfl .nil) ?_
      exact ⟨rfl, HB⟩
    · exact absurd trivial hdummy
end Go.Proofs.Ytgmhcfhmpjpomaa
