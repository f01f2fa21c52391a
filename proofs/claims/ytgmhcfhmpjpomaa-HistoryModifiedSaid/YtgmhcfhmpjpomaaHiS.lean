/- Layer 49: the law's awake. -/
import Derived.Test.YtgmhcfhmpjpomaaT49
import Derived.Test.YtgmhcfhmpjpomaaHiR
import Derived.Test.YtgmhcfhmpjpomaaHiD
namespace Go.Proofs.Ytgmhcfhmpjpomaa
set_option linter.unusedSimpArgs false
set_option linter.unusedVariables false
open Go.RowKit

theorem ChAt.fresh {w : World} {B p : Nat} {g : Option Nat} {l : List Hi.V} (h : ChAt w B p g l) {q : Nat} (hq : q = w.heap.size) : ¬ p = q ∧ ∀ k, g = some k → ¬ k = q := by
  have := h.lt
  exact ⟨by omega, fun k hk => by have := this.2 k hk; omega⟩
namespace Hi
def r0 : V := ⟨5, 1, 7, 9, 2121819770879496638⟩
def r1 : V := ⟨8, 2, 7, 9, 8112557030241740896⟩
def r6 : V := ⟨5, 1, 6, 9, 2121819770879496638⟩
theorem aw_ok : ∀ v ∈ [r0, r1], v.ok := by
  intro v hv
  simp only [List.mem_cons, List.not_mem_nil, or_false] at hv
  rcases hv with rfl | rfl <;> exact ⟨⟨by decide, by decide⟩, ⟨by decide, by decide⟩, ⟨by decide, by decide⟩, ⟨by decide, by decide⟩, ⟨by decide, by decide⟩⟩
end Hi
theorem awApp1 (w : World) (B p : Nat) (g : Option Nat) (h : ChAt w B p g []) : Calls Try.prog 21 #[.pointer (some ⟨p, 0, none⟩), .int .i64 5, .int .i64 1, .int .u64 7, .int .u64 9] w fun e w' => e = .returned (.tuple #[.int .u64 2121819770879496638, .int .i64 0]) ∧ ChTo w w' B p g [Hi.r0] := by
  have := append_any w B p g [] ⟨5, 1, 7, 9, 0⟩ h (by decide)
  rw [show Hi.appS [] ⟨5, 1, 7, 9, 0⟩ = 2121819770879496638 by decide +kernel, show Hi.errA [] ⟨5, 1, 7, 9, 0⟩ = 0 by decide +kernel, show Hi.appL [] ⟨5, 1, 7, 9, 0⟩ = [Hi.r0] by decide +kernel] at this
  exact this
theorem awApp2 (w : World) (B p : Nat) (g : Option Nat) (h : ChAt w B p g [Hi.r0]) : Calls Try.prog 21 #[.pointer (some ⟨p, 0, none⟩), .int .i64 6, .int .i64 1, .int .u64 7, .int .u64 9] w fun e w' => e = .returned (.tuple #[.int .u64 2121819770879496638, .int .i64 0]) ∧ ChTo w w' B p g [Hi.r0] := by
  have := append_any w B p g [Hi.r0] ⟨6, 1, 7, 9, 0⟩ h (by decide)
  rw [show Hi.appS [Hi.r0] ⟨6, 1, 7, 9, 0⟩ = 2121819770879496638 by decide +kernel, show Hi.errA [Hi.r0] ⟨6, 1, 7, 9, 0⟩ = 0 by decide +kernel, show Hi.appL [Hi.r0] ⟨6, 1, 7, 9, 0⟩ = [Hi.r0] by decide +kernel] at this
  exact this
theorem awApp3 (w : World) (B p : Nat) (g : Option Nat) (h : ChAt w B p g [Hi.r0]) : Calls Try.prog 21 #[.pointer (some ⟨p, 0, none⟩), .int .i64 4, .int .i64 1, .int .u64 7, .int .u64 9] w fun e w' => e = .returned (.tuple #[.int .u64 0, .int .i64 8]) ∧ ChTo w w' B p g [Hi.r0] := by
  have := append_any w B p g [Hi.r0] ⟨4, 1, 7, 9, 0⟩ h (by decide)
  rw [show Hi.appS [Hi.r0] ⟨4, 1, 7, 9, 0⟩ = 0 by decide +kernel, show Hi.errA [Hi.r0] ⟨4, 1, 7, 9, 0⟩ = 8 by decide +kernel, show Hi.appL [Hi.r0] ⟨4, 1, 7, 9, 0⟩ = [Hi.r0] by decide +kernel] at this
  exact this
theorem awApp4 (w : World) (B p : Nat) (g : Option Nat) (h : ChAt w B p g [Hi.r0]) : Calls Try.prog 21 #[.pointer (some ⟨p, 0, none⟩), .int .i64 8, .int .i64 2, .int .u64 7, .int .u64 9] w fun e w' => e = .returned (.tuple #[.int .u64 8112557030241740896, .int .i64 0]) ∧ ChTo w w' B p g [Hi.r0, Hi.r1] := by
  have := append_any w B p g [Hi.r0] ⟨8, 2, 7, 9, 0⟩ h (by decide)
  rw [show Hi.appS [Hi.r0] ⟨8, 2, 7, 9, 0⟩ = 8112557030241740896 by decide +kernel, show Hi.errA [Hi.r0] ⟨8, 2, 7, 9, 0⟩ = 0 by decide +kernel, show Hi.appL [Hi.r0] ⟨8, 2, 7, 9, 0⟩ = [Hi.r0, Hi.r1] by decide +kernel] at this
  exact this
theorem awAt1 (w : World) (B p : Nat) (g : Option Nat) (h : ChAt w B p g [Hi.r0, Hi.r1]) : Calls Try.prog 11 #[.pointer (some ⟨p, 0, none⟩), .int .i64 4] w fun e w' => e = .returned (.tuple #[.agg (Hi.V.cells Hi.zero).toArray, .bool false]) ∧ Below w.heap.size w w' := by
  have := at_any w B p g [Hi.r0, Hi.r1] 4 h (by decide)
  rw [show Hi.atV 4 [Hi.r0, Hi.r1] = Hi.zero by decide +kernel, show Hi.atB 4 [Hi.r0, Hi.r1] = false by decide +kernel] at this
  exact this
theorem awAt2 (w : World) (B p : Nat) (g : Option Nat) (h : ChAt w B p g [Hi.r0, Hi.r1]) : Calls Try.prog 11 #[.pointer (some ⟨p, 0, none⟩), .int .i64 7] w fun e w' => e = .returned (.tuple #[.agg (Hi.V.cells Hi.r0).toArray, .bool true]) ∧ Below w.heap.size w w' := by
  have := at_any w B p g [Hi.r0, Hi.r1] 7 h (by decide)
  rw [show Hi.atV 7 [Hi.r0, Hi.r1] = Hi.r0 by decide +kernel, show Hi.atB 7 [Hi.r0, Hi.r1] = true by decide +kernel] at this
  exact this
theorem awVer1 (w : World) (A : Option Addr) (c : Nat) (h : Rd w A (Hi.vals [Hi.r0, Hi.r1])) : Calls Try.prog 15 #[.slice A 2 c] w fun e w' => e = .returned (.int .i64 (-1)) ∧ Below w.heap.size w w' := by
  have := verify_any w A [Hi.r0, Hi.r1] c h (by decide)
  rw [show Hi.chk [Hi.r0, Hi.r1] = -1 by decide +kernel] at this
  exact this
theorem awVer2 (w : World) (A : Option Addr) (c : Nat) (h : Rd w A (Hi.vals [Hi.r6, Hi.r1])) : Calls Try.prog 15 #[.slice A 2 c] w fun e w' => e = .returned (.int .i64 (0)) ∧ Below w.heap.size w w' := by
  have := verify_any w A [Hi.r6, Hi.r1] c h (by decide)
  rw [show Hi.chk [Hi.r6, Hi.r1] = 0 by decide +kernel] at this
  exact this
theorem awDiv1 (w : World) (A : Option Addr) (c : Nat) (A' : Option Addr) (c' : Nat) (h : Rd w A (Hi.vals [Hi.r0, Hi.r1])) (h' : Rd w A' (Hi.vals [Hi.r6, Hi.r1])) : Calls Try.prog 18 #[.slice A 2 c, .slice A' 2 c'] w fun e w' => e = .returned (.int .i64 (0)) ∧ Below w.heap.size w w' := by
  have := diverge_any w A [Hi.r0, Hi.r1] c A' [Hi.r6, Hi.r1] c' h h' (by decide) (by decide)
  rw [show Hi.apart [Hi.r0, Hi.r1] [Hi.r6, Hi.r1] = 0 by decide +kernel] at this
  exact this
theorem awDiv2 (w : World) (A : Option Addr) (c : Nat) (A' : Option Addr) (c' : Nat) (h : Rd w A (Hi.vals [Hi.r0, Hi.r1])) (h' : Rd w A' (Hi.vals [Hi.r0])) : Calls Try.prog 18 #[.slice A 2 c, .slice A' 1 c'] w fun e w' => e = .returned (.int .i64 (1)) ∧ Below w.heap.size w w' := by
  have := diverge_any w A [Hi.r0, Hi.r1] c A' [Hi.r0] c' h h' (by decide) (by decide)
  rw [show Hi.apart [Hi.r0, Hi.r1] [Hi.r0] = 1 by decide +kernel] at this
  exact this
theorem awDiv3 (w : World) (A : Option Addr) (c : Nat) (A' : Option Addr) (c' : Nat) (h : Rd w A (Hi.vals [Hi.r0, Hi.r1])) (h' : Rd w A' (Hi.vals [Hi.r0, Hi.r1])) : Calls Try.prog 18 #[.slice A 2 c, .slice A' 2 c'] w fun e w' => e = .returned (.int .i64 (-1)) ∧ Below w.heap.size w w' := by
  have := diverge_any w A [Hi.r0, Hi.r1] c A' [Hi.r0, Hi.r1] c' h h' (by decide) (by decide)
  rw [show Hi.apart [Hi.r0, Hi.r1] [Hi.r0, Hi.r1] = -1 by decide +kernel] at this
  exact this

set_option maxRecDepth 100000 in
theorem awake_any (w : World) : Calls Try.prog 10 #[] w fun e w' => e = .returned (.bool true) ∧ Below w.heap.size w w' := by
  refine Fw.calls Try.func10 rfl Try.ntmps10 rfl ?_
  have HB := Below.refl (w.heap.size) w
  refine Fw.seq fun _ hK1 => ?_
  refine Fw.region ?_
  refine Fw.s (Fw.val_assign rfl) rfl ?_
  refine Fw.nil ?_
  refine hK1 _ _ ?_
  refine Fw.seq fun _ hK2 => ?_
  refine Fw.region ?_
  refine Fw.call cf22 rfl rfl (newChain_any _) ?_
  rintro e_ w1 ⟨rfl, HC, hb⟩
  refine ⟨_, rfl, ?_⟩
  replace HB := HB.trans (hb.mono HB.size)
  clear hb
  refine Fw.s (Fw.val_assign rfl) rfl ?_
  refine Fw.nil ?_
  refine hK2 _ _ ?_
  refine Fw.seq fun _ hK3 => ?_
  refine Fw.seq fun _ hK4 => ?_
  refine Fw.region ?_
  refine Fw.s (Fw.val_move rfl) rfl ?_
  refine Fw.s (Fw.val_bin rfl rfl (Fw.b_nilP Try.underlying23)) rfl ?_
  refine Fw.nil ?_
  refine hK4 _ _ ?_
  refine Fw.condF rfl ?_
  refine Fw.skip ?_
  refine hK3 _ _ ?_
  refine Fw.seq fun _ hK5 => ?_
  refine Fw.region ?_
  refine Fw.s (Fw.val_move rfl) rfl ?_
  refine Fw.call cf21 rfl rfl (awApp1 _ w.heap.size w.heap.size _ HC) ?_
  rintro e_ w2 ⟨rfl, ht⟩
  refine ⟨_, rfl, ?_⟩
  replace HB := HB.trans (ChTo.below HC ht HB.size)
  clear HC
  obtain ⟨g1, HC⟩ := ht.at
  clear ht
  refine Fw.s (Fw.val_move rfl) rfl ?_
  refine Fw.s (Fw.val_extract rfl rfl) rfl ?_
  refine Fw.s (Fw.val_extract rfl rfl) rfl ?_
  refine Fw.s (Fw.val_assign rfl) rfl ?_
  refine Fw.s (Fw.val_assign rfl) rfl ?_
  refine Fw.nil ?_
  refine hK5 _ _ (Fw.FC.sub (f' := [(3, _), (2, _), (1, _)]) (.cons rfl (.cons rfl (.cons rfl .nil))) ?_)
  refine Fw.seq fun _ hK6 => ?_
  refine Fw.region ?_
  refine Fw.s (Fw.val_move rfl) rfl ?_
  refine Fw.call cf21 rfl rfl (awApp2 _ w.heap.size w.heap.size _ HC) ?_
  rintro e_ w3 ⟨rfl, ht⟩
  refine ⟨_, rfl, ?_⟩
  replace HB := HB.trans (ChTo.below HC ht HB.size)
  clear HC
  obtain ⟨g2, HC⟩ := ht.at
  clear ht
  refine Fw.s (Fw.val_move rfl) rfl ?_
  refine Fw.s (Fw.val_extract rfl rfl) rfl ?_
  refine Fw.s (Fw.val_extract rfl rfl) rfl ?_
  refine Fw.s (Fw.val_assign rfl) rfl ?_
  refine Fw.s (Fw.val_assign rfl) rfl ?_
  refine Fw.nil ?_
  refine hK6 _ _ ?_
  refine Fw.seq fun _ hK7 => ?_
  refine Fw.region ?_
  refine Fw.s (Fw.val_move rfl) rfl ?_
  refine Fw.call cf21 rfl rfl (awApp3 _ w.heap.size w.heap.size _ HC) ?_
  rintro e_ w4 ⟨rfl, ht⟩
  refine ⟨_, rfl, ?_⟩
  replace HB := HB.trans (ChTo.below HC ht HB.size)
  clear HC
  obtain ⟨g3, HC⟩ := ht.at
  clear ht
  refine Fw.s (Fw.val_move rfl) rfl ?_
  refine Fw.s (Fw.val_extract rfl rfl) rfl ?_
  refine Fw.s (Fw.val_extract rfl rfl) rfl ?_
  refine Fw.s (Fw.val_assign rfl) rfl ?_
  refine Fw.s (Fw.val_assign rfl) rfl ?_
  refine Fw.nil ?_
  refine hK7 _ _ (Fw.FC.sub (f' := [(7, _), (5, _), (4, _), (3, _), (2, _), (1, _)]) (.cons rfl (.cons rfl (.cons rfl (.cons rfl (.cons rfl (.cons rfl .nil)))))) ?_)
  refine Fw.seq fun _ hK8 => ?_
  refine Fw.region ?_
  refine Fw.s (Fw.val_move rfl) rfl ?_
  refine Fw.call cf21 rfl rfl (awApp4 _ w.heap.size w.heap.size _ HC) ?_
  rintro e_ w5 ⟨rfl, ht⟩
  refine ⟨_, rfl, ?_⟩
  replace HB := HB.trans (ChTo.below HC ht HB.size)
  clear HC
  obtain ⟨g4, HC⟩ := ht.at
  clear ht
  refine Fw.s (Fw.val_move rfl) rfl ?_
  refine Fw.s (Fw.val_extract rfl rfl) rfl ?_
  refine Fw.s (Fw.val_extract rfl rfl) rfl ?_
  refine Fw.s (Fw.val_assign rfl) rfl ?_
  refine Fw.s (Fw.val_assign rfl) rfl ?_
  refine Fw.nil ?_
  refine hK8 _ _ ?_
  refine Fw.seq fun _ hK9 => ?_
  refine Fw.region ?_
  refine Fw.s (Fw.val_move rfl) rfl ?_
  refine Fw.call cf20 rfl rfl (all_any _ w.heap.size w.heap.size g4 [Hi.r0, Hi.r1] HC (by decide)) ?_
  rintro e_ w6 ⟨AL, cL, rfl, HL, hb⟩
  refine ⟨_, rfl, ?_⟩
  replace HC := HC.low hb
  replace HB := HB.trans (hb.mono HB.size)
  clear hb
  refine Fw.s (Fw.val_assign rfl) rfl ?_
  refine Fw.nil ?_
  refine hK9 _ _ (Fw.FC.sub (f' := [(10, _), (9, _), (8, _), (7, _), (5, _), (4, _), (3, _), (2, _), (1, _)]) (.cons rfl (.cons rfl (.cons rfl (.cons rfl (.cons rfl (.cons rfl (.cons rfl (.cons rfl (.cons rfl .nil))))))))) ?_)
  refine Fw.seq fun _ hK10 => ?_
  refine Fw.region ?_
  refine Fw.s (Fw.val_move rfl) rfl ?_
  refine Fw.call cf11 rfl rfl (awAt1 _ w.heap.size w.heap.size g4 HC) ?_
  rintro e_ w7 ⟨rfl, hb⟩
  refine ⟨_, rfl, ?_⟩
  replace HC := HC.low hb
  replace HL := own_below HL hb (Nat.le_refl _)
  replace HB := HB.trans (hb.mono HB.size)
  clear hb
  refine Fw.s (Fw.val_move rfl) rfl ?_
  refine Fw.s (Fw.val_extract rfl rfl) rfl ?_
  refine Fw.s (Fw.val_extract rfl rfl) rfl ?_
  refine Fw.alloc ze30 rfl ?_
  intro w8 gXa egXa HXa hb
  have fr_HC_gXa := HC.fresh egXa
  have fr_HL_gXa := own_fresh HL egXa
  have lgXa : w.heap.size ≤ gXa := by have := HB.size; omega
  replace HC := HC.low hb
  replace HL := own_below HL hb (Nat.le_refl _)
  replace HB := HB.trans (hb.mono HB.size)
  clear hb
  clear egXa
  refine Fw.storeW sz30 rfl rfl HXa rfl rfl (by exact Fw.oneCells rfl) ?_
  intro w9 N_ hc
  replace HC := HC.chg hc fr_HC_gXa.1 fr_HC_gXa.2
  replace HL := own_to HL hc (fun g_ h_ e_ => fr_HL_gXa (by rw [h_, e_]))
  replace HB := HB.trans (hc.below (B := w.heap.size) (fun k e => by omega) HB.size)
  clear hc
  clear HXa
  have HXa := N_
  clear N_
  refine Fw.s (Fw.val_assign rfl) rfl ?_
  refine Fw.nil ?_
  refine hK10 _ _ ?_
  refine Fw.seq fun _ hK11 => ?_
  refine Fw.region ?_
  refine Fw.s (Fw.val_move rfl) rfl ?_
  refine Fw.call cf11 rfl rfl (awAt2 _ w.heap.size w.heap.size g4 HC) ?_
  rintro e_ w10 ⟨rfl, hb⟩
  refine ⟨_, rfl, ?_⟩
  replace HC := HC.low hb
  replace HL := own_below HL hb (Nat.le_refl _)
  replace HXa := HXa.low hb
  replace HB := HB.trans (hb.mono HB.size)
  clear hb
  refine Fw.s (Fw.val_move rfl) rfl ?_
  refine Fw.s (Fw.val_extract rfl rfl) rfl ?_
  refine Fw.s (Fw.val_extract rfl rfl) rfl ?_
  refine Fw.alloc ze30 rfl ?_
  intro w11 gXb egXb HXb hb
  have fr_HC_gXb := HC.fresh egXb
  have fr_HL_gXb := own_fresh HL egXb
  have n_gXa_gXb : gXa < gXb := by have := HXa.lt; omega
  have lgXb : w.heap.size ≤ gXb := by have := HB.size; omega
  replace HC := HC.low hb
  replace HL := own_below HL hb (Nat.le_refl _)
  replace HXa := HXa.low hb
  replace HB := HB.trans (hb.mono HB.size)
  clear hb
  clear egXb
  refine Fw.storeW sz30 rfl rfl HXb rfl rfl (by exact Fw.oneCells rfl) ?_
  intro w12 N_ hc
  replace HC := HC.chg hc fr_HC_gXb.1 fr_HC_gXb.2
  replace HL := own_to HL hc (fun g_ h_ e_ => fr_HL_gXb (by rw [h_, e_]))
  replace HXa := HXa.chg hc (by omega)
  replace HB := HB.trans (hc.below (B := w.heap.size) (fun k e => by omega) HB.size)
  clear hc
  clear HXb
  have HXb := N_
  clear N_
  refine Fw.s (Fw.val_assign rfl) rfl ?_
  refine Fw.nil ?_
  refine hK11 _ _ (Fw.FC.sub (f' := [(14, _), (13, _), (12, _), (10, _), (9, _), (8, _), (7, _), (5, _), (4, _), (3, _), (2, _)]) (.cons rfl (.cons rfl (.cons rfl (.cons rfl (.cons rfl (.cons rfl (.cons rfl (.cons rfl (.cons rfl (.cons rfl (.cons rfl .nil))))))))))) ?_)
  refine Fw.seq fun _ hK12 => ?_
  refine Fw.seq fun _ hK13 => ?_
  refine Fw.region ?_
  refine Fw.s (Fw.val_move rfl) rfl ?_
  refine Fw.s (Fw.val_len Try.underlying38 rfl) rfl ?_
  refine Fw.s (Fw.Val.F (Fw.val_bin rfl rfl Fw.b_neq) (by decide)) rfl ?_
  refine Fw.nil ?_
  refine hK13 _ _ ?_
  refine Fw.condF rfl ?_
  refine Fw.skip ?_
  refine hK12 _ _ ?_
  refine Fw.seq fun _ hK14 => ?_
  refine Fw.region ?_
  refine Fw.s (Fw.val_move rfl) rfl ?_
  refine Fw.call cf25 rfl rfl (encode_any _ AL [Hi.r0, Hi.r1] cL (Rd.of_own HL) (by decide) Hi.aw_ok) ?_
  rintro e_ w13 ⟨AE, cE, rfl, HE, hb⟩
  refine ⟨_, rfl, ?_⟩
  replace HL := own_below HL hb (Nat.le_refl _)
  replace HXa := HXa.low hb
  replace HXb := HXb.low hb
  replace HB := HB.trans (hb.mono HB.size)
  clear hb
  refine Fw.call cf24 rfl rfl (decode_enc _ AE [Hi.r0, Hi.r1] cE (Rd.of_own HE) (by decide) Hi.aw_ok) ?_
  rintro e_ w14 ⟨AD, cD, rfl, HD, hb⟩
  refine ⟨_, rfl, ?_⟩
  replace HL := own_below HL hb (Nat.le_refl _)
  replace HXa := HXa.low hb
  replace HXb := HXb.low hb
  replace HB := HB.trans (hb.mono HB.size)
  clear hb
  refine Fw.s (Fw.val_move rfl) rfl ?_
  refine Fw.s (Fw.val_extract rfl rfl) rfl ?_
  refine Fw.s (Fw.val_extract rfl rfl) rfl ?_
  refine Fw.s (Fw.val_assign rfl) rfl ?_
  refine Fw.s (Fw.val_assign rfl) rfl ?_
  refine Fw.nil ?_
  refine hK14 _ _ (Fw.FC.sub (f' := [(16, _), (15, _), (14, _), (13, _), (12, _), (10, _), (9, _), (8, _), (7, _), (5, _), (4, _), (3, _), (2, _)]) (.cons rfl (.cons rfl (.cons rfl (.cons rfl (.cons rfl (.cons rfl (.cons rfl (.cons rfl (.cons rfl (.cons rfl (.cons rfl (.cons rfl (.cons rfl .nil))))))))))))) ?_)
  refine Fw.seq fun _ hK15 => ?_
  have HL14 := Rd.of_own HL
  have HD14 := Rd.of_own HD
  have HB14 := HB
  have hxb14 := HXb.lt
  have own_cap14 : 2 ≤ cL := (own_cap HL).1
  have H2 := Below.refl w14.heap.size w14
  clear HL HD
  refine Fw.region ?_
  refine Fw.buildSlice [] sl38 rfl rfl (by exact Fw.allSz rfl) (by decide) rfl ?_
  intro w15 gS62 egS62 HS62 hb
  have h2s : w14.heap.size ≤ gS62 := by have := H2.size; omega
  have n_gXb_gS62 : gXb < gS62 := by have := HXb.lt; omega
  have lgS62 : w.heap.size ≤ gS62 := by have := HB.size; omega
  replace HXb := HXb.low hb
  replace H2 := H2.trans (hb.mono H2.size)
  replace HB := HB.trans (hb.mono HB.size)
  clear hb
  clear egS62
  refine Fw.s (Fw.val_move rfl) rfl ?_
  refine Fw.append 2 (Hi.vals [Hi.r0, Hi.r1]) sl38 rfl rfl (Fw.ownBlk (base := w14.heap.size) HS62 h2s (by decide) rfl) (HL14.low H2) rfl (Hi.vals_one _) (by decide) H2.size rfl rfl rfl ?_
  intro AS cS w16 HSP hbb hc _
  replace H2 := H2.trans hbb
  replace HB := HB.trans (hbb.mono HB14.size)
  replace HXb := HXb.chg hc (Fw.ownBlk_ne (by omega))
  clear hbb hc
  obtain ⟨gs, hgs, hgb, hgl, hadd, HE⟩ := Fw.ownAt Hi.cells_len (by decide) HSP 0 (by decide) rfl
  subst hgs
  have hgw : w.heap.size ≤ gs := Nat.le_trans HB14.size hgb
  refine Fw.s (Fw.val_assign rfl) rfl ?_
  refine Fw.nil ?_
  refine hK15 _ _ ?_
  refine Fw.seq fun _ hK16 => ?_
  refine Fw.region ?_
  refine Fw.s (Fw.val_move rfl) rfl ?_
  refine Fw.s (Fw.val_indexR Try.underlying38 sz30 rfl rfl rfl rfl (by decide) hadd) rfl ?_
  refine Fw.s (Fw.val_fieldAddr fl30_2 rfl rfl) rfl ?_
  refine Fw.storeR sz28 rfl rfl HSP (by decide) rfl rfl ?_
  intro w17 N_ hc
  replace HXb := HXb.chg hc (by omega)
  replace H2 := H2.trans (hc.below (B := w14.heap.size) (fun k e => by omega) H2.size)
  replace HB := HB.trans (hc.below (B := w.heap.size) (fun k e => by omega) HB.size)
  clear hc
  clear HSP HE
  have HSP := N_
  clear N_
  replace HSP : w17.ownsRow w14.heap.size 30 5 (.slice (some ⟨gs, 0, none⟩) 2 cS) 2 (Hi.vals [Hi.r6, Hi.r1]) := HSP
  have hgs2 : w14.heap.size ≤ gs := hgb
  refine Fw.nil ?_
  refine hK16 _ _ ?_
  refine Fw.seq fun _ hK18 => ?_
  refine Fw.region ?_
  refine Fw.s (Fw.val_move rfl) rfl ?_
  refine Fw.s (Fw.Val.T (Fw.val_bin rfl rfl Fw.b_eql) (by decide)) rfl ?_
  refine Fw.s (Fw.val_move rfl) rfl ?_
  refine Fw.gT (d := 70) rfl rfl ?_
  refine Fw.s (Fw.val_move rfl) rfl ?_
  refine Fw.gT (d := 70) rfl rfl ?_
  refine Fw.s (Fw.Val.T (Fw.val_bin rfl rfl Fw.b_eql) (by decide)) rfl ?_
  refine Fw.s (Fw.val_pickT rfl rfl) rfl ?_
  refine Fw.s (Fw.val_move rfl) rfl ?_
  refine Fw.gT (d := 74) rfl rfl ?_
  refine Fw.s (Fw.val_move rfl) rfl ?_
  refine Fw.gT (d := 74) rfl rfl ?_
  refine Fw.s (Fw.val_move rfl) rfl ?_
  refine Fw.gT (d := 74) rfl rfl ?_
  refine Fw.s (Fw.Val.T (Fw.val_bin rfl rfl Fw.b_eql) (by decide)) rfl ?_
  refine Fw.s (Fw.val_pickT rfl rfl) rfl ?_
  refine Fw.s (Fw.val_move rfl) rfl ?_
  refine Fw.gT (d := 79) rfl rfl ?_
  refine Fw.s (Fw.val_move rfl) rfl ?_
  refine Fw.gT (d := 79) rfl rfl ?_
  refine Fw.s (Fw.Val.T (Fw.val_bin rfl rfl Fw.b_eql) (by decide)) rfl ?_
  refine Fw.s (Fw.val_pickT rfl rfl) rfl ?_
  refine Fw.s (Fw.val_move rfl) rfl ?_
  refine Fw.gT (d := 83) rfl rfl ?_
  refine Fw.s (Fw.val_move rfl) rfl ?_
  refine Fw.gT (d := 83) rfl rfl ?_
  refine Fw.s (Fw.Val.T (Fw.val_bin rfl rfl Fw.b_eql) (by decide)) rfl ?_
  refine Fw.s (Fw.val_pickT rfl rfl) rfl ?_
  refine Fw.s (Fw.val_move rfl) rfl ?_
  refine Fw.gT (d := 87) rfl rfl ?_
  refine Fw.s (Fw.val_move rfl) rfl ?_
  refine Fw.gT (d := 87) rfl rfl ?_
  refine Fw.s (Fw.val_move rfl) rfl ?_
  refine Fw.gT (d := 87) rfl rfl ?_
  refine Fw.s (Fw.Val.T (Fw.val_bin rfl rfl Fw.b_neq) (by decide)) rfl ?_
  refine Fw.s (Fw.val_pickT rfl rfl) rfl ?_
  refine Fw.s (Fw.val_move rfl) rfl ?_
  refine Fw.gT (d := 92) rfl rfl ?_
  refine Fw.s (Fw.val_move rfl) rfl ?_
  refine Fw.gT (d := 92) rfl rfl ?_
  refine Fw.s (Fw.val_not rfl) rfl ?_
  refine Fw.s (Fw.val_pickT rfl rfl) rfl ?_
  refine Fw.s (Fw.val_move rfl) rfl ?_
  refine Fw.gT (d := 96) rfl rfl ?_
  refine Fw.s (Fw.val_move rfl) rfl ?_
  refine Fw.s (Fw.val_pickT rfl rfl) rfl ?_
  refine Fw.s (Fw.val_move rfl) rfl ?_
  refine Fw.gT (d := 99) rfl rfl ?_
  refine Fw.s (Fw.val_fieldAddr fl30_0 rfl rfl) rfl ?_
  refine Fw.gT (d := 99) rfl rfl ?_
  refine Fw.ld sc2 rfl (HXb.cell 0) rfl ?_
  refine Fw.gT (d := 99) rfl rfl ?_
  refine Fw.s (Fw.Val.T (Fw.val_bin rfl rfl Fw.b_eql) (by decide)) rfl ?_
  refine Fw.s (Fw.val_pickT rfl rfl) rfl ?_
  refine Fw.s (Fw.val_move rfl) rfl ?_
  refine Fw.gT (d := 104) rfl rfl ?_
  refine Fw.s (Fw.val_fieldAddr fl30_4 rfl rfl) rfl ?_
  refine Fw.gT (d := 104) rfl rfl ?_
  refine Fw.ld sc28 rfl (HXb.cell 4) rfl ?_
  refine Fw.gT (d := 104) rfl rfl ?_
  refine Fw.s (Fw.val_move rfl) rfl ?_
  refine Fw.gT (d := 104) rfl rfl ?_
  refine Fw.s (Fw.Val.T (Fw.val_bin rfl rfl Fw.b_eql) (by decide)) rfl ?_
  refine Fw.s (Fw.val_pickT rfl rfl) rfl ?_
  refine Fw.s (Fw.val_move rfl) rfl ?_
  refine Fw.gT (d := 110) rfl rfl ?_
  refine Fw.s (Fw.val_move rfl) rfl ?_
  refine Fw.gT (d := 110) rfl rfl ?_
  refine Fw.call cf15 rfl rfl (awVer1 _ AL cL (HL14.low H2)) ?_
  rintro e_ w18 ⟨rfl, hb⟩
  refine ⟨_, rfl, ?_⟩
  replace HXb := HXb.low hb
  replace H2 := H2.trans (hb.mono H2.size)
  replace HSP := own_below HSP hb (Nat.le_refl _)
  replace HB := HB.trans (hb.mono HB.size)
  clear hb
  refine Fw.gT (d := 110) rfl rfl ?_
  refine Fw.s (Fw.Val.T (Fw.val_bin rfl rfl Fw.b_eql) (by decide)) rfl ?_
  refine Fw.s (Fw.val_pickT rfl rfl) rfl ?_
  refine Fw.s (Fw.val_move rfl) rfl ?_
  refine Fw.gT (d := 115) rfl rfl ?_
  refine Fw.s (Fw.val_move rfl) rfl ?_
  refine Fw.gT (d := 115) rfl rfl ?_
  refine Fw.s (Fw.Val.T (Fw.val_bin rfl rfl Fw.b_eql) (by decide)) rfl ?_
  refine Fw.s (Fw.val_pickT rfl rfl) rfl ?_
  refine Fw.s (Fw.val_move rfl) rfl ?_
  refine Fw.gT (d := 119) rfl rfl ?_
  refine Fw.s (Fw.val_move rfl) rfl ?_
  refine Fw.gT (d := 119) rfl rfl ?_
  refine Fw.call cf14 rfl rfl (back_any _ AD [Hi.r0, Hi.r1] cD (HD14.low H2) (by decide)) ?_
  rintro e_ w19 ⟨AK1, cK1, rfl, HK1, hb⟩
  refine ⟨_, rfl, ?_⟩
  replace HXb := HXb.low hb
  replace H2 := H2.trans (hb.mono H2.size)
  replace HSP := own_below HSP hb (Nat.le_refl _)
  replace HB := HB.trans (hb.mono HB.size)
  clear hb
  refine Fw.gT (d := 119) rfl rfl ?_
  refine Fw.s (Fw.val_move rfl) rfl ?_
  refine Fw.gT (d := 119) rfl rfl ?_
  refine Fw.call cf14 rfl rfl (back_any _ AL [Hi.r0, Hi.r1] cL (HL14.low H2) (by decide)) ?_
  rintro e_ w20 ⟨AK2, cK2, rfl, HK2, hb⟩
  refine ⟨_, rfl, ?_⟩
  replace HXb := HXb.low hb
  replace H2 := H2.trans (hb.mono H2.size)
  replace HSP := own_below HSP hb (Nat.le_refl _)
  replace HK1 := own_below HK1 hb (Nat.le_refl _)
  replace HB := HB.trans (hb.mono HB.size)
  clear hb
  refine Fw.gT (d := 119) rfl rfl ?_
  refine Fw.call cf13 rfl rfl (rsame_any _ AK1 [Hi.r0, Hi.r1] cK1 AK2 [Hi.r0, Hi.r1] cK2 (Rd.of_own HK1) (Rd.of_own HK2) (by decide) (by decide)) ?_
  rintro e_ w21 ⟨rfl, hb⟩
  refine ⟨_, rfl, ?_⟩
  replace HXb := HXb.low hb
  replace H2 := H2.trans (hb.mono H2.size)
  replace HSP := own_below HSP hb (Nat.le_refl _)
  replace HK1 := own_below HK1 hb (Nat.le_refl _)
  replace HK2 := own_below HK2 hb (Nat.le_refl _)
  replace HB := HB.trans (hb.mono HB.size)
  clear hb
  refine Fw.bT (by rw [Hi.apart_same]; rfl) ?_
  refine Fw.s (Fw.val_pickT rfl rfl) rfl ?_
  refine Fw.s (Fw.val_move rfl) rfl ?_
  refine Fw.gT (d := 126) rfl rfl ?_
  refine Fw.s (Fw.val_move rfl) rfl ?_
  refine Fw.gT (d := 126) rfl rfl ?_
  refine Fw.call cf15 rfl rfl (awVer2 _ (some ⟨gs, 0, none⟩) cS (Rd.of_own HSP)) ?_
  rintro e_ w22 ⟨rfl, hb⟩
  refine ⟨_, rfl, ?_⟩
  replace HXb := HXb.low hb
  replace H2 := H2.trans (hb.mono H2.size)
  replace HSP := own_below HSP hb (Nat.le_refl _)
  replace HK1 := own_below HK1 hb (Nat.le_refl _)
  replace HK2 := own_below HK2 hb (Nat.le_refl _)
  replace HB := HB.trans (hb.mono HB.size)
  clear hb
  refine Fw.gT (d := 126) rfl rfl ?_
  refine Fw.s (Fw.Val.T (Fw.val_bin rfl rfl Fw.b_eql) (by decide)) rfl ?_
  refine Fw.s (Fw.val_pickT rfl rfl) rfl ?_
  refine Fw.s (Fw.val_move rfl) rfl ?_
  refine Fw.gT (d := 131) rfl rfl ?_
  refine Fw.s (Fw.val_move rfl) rfl ?_
  refine Fw.gT (d := 131) rfl rfl ?_
  refine Fw.s (Fw.val_move rfl) rfl ?_
  refine Fw.gT (d := 131) rfl rfl ?_
  refine Fw.call cf18 rfl rfl (awDiv1 _ AL cL (some ⟨gs, 0, none⟩) cS (HL14.low H2) (Rd.of_own HSP)) ?_
  rintro e_ w23 ⟨rfl, hb⟩
  refine ⟨_, rfl, ?_⟩
  replace HXb := HXb.low hb
  replace H2 := H2.trans (hb.mono H2.size)
  replace HSP := own_below HSP hb (Nat.le_refl _)
  replace HK1 := own_below HK1 hb (Nat.le_refl _)
  replace HK2 := own_below HK2 hb (Nat.le_refl _)
  replace HB := HB.trans (hb.mono HB.size)
  clear hb
  refine Fw.gT (d := 131) rfl rfl ?_
  refine Fw.s (Fw.Val.T (Fw.val_bin rfl rfl Fw.b_eql) (by decide)) rfl ?_
  refine Fw.s (Fw.val_pickT rfl rfl) rfl ?_
  refine Fw.s (Fw.val_move rfl) rfl ?_
  refine Fw.gT (d := 137) rfl rfl ?_
  refine Fw.s (Fw.val_move rfl) rfl ?_
  refine Fw.gT (d := 137) rfl rfl ?_
  refine Fw.s (Fw.val_move rfl) rfl ?_
  refine Fw.gT (d := 137) rfl rfl ?_
  refine Fw.s (Fw.val_sliceTo (m := 1) Try.underlying38 sz30 rfl rfl rfl (by omega)) rfl ?_
  refine Fw.gT (d := 137) rfl rfl ?_
  refine Fw.call cf18 rfl rfl (awDiv2 _ AL cL AL cL (HL14.low H2) (Fw.rdPre (show Rd _ _ (Hi.vals [Hi.r0] ++ Hi.vals [Hi.r1]) from HL14.low H2))) ?_
  rintro e_ w24 ⟨rfl, hb⟩
  refine ⟨_, rfl, ?_⟩
  replace HXb := HXb.low hb
  replace H2 := H2.trans (hb.mono H2.size)
  replace HSP := own_below HSP hb (Nat.le_refl _)
  replace HK1 := own_below HK1 hb (Nat.le_refl _)
  replace HK2 := own_below HK2 hb (Nat.le_refl _)
  replace HB := HB.trans (hb.mono HB.size)
  clear hb
  refine Fw.gT (d := 137) rfl rfl ?_
  refine Fw.s (Fw.Val.T (Fw.val_bin rfl rfl Fw.b_eql) (by decide)) rfl ?_
  refine Fw.s (Fw.val_pickT rfl rfl) rfl ?_
  refine Fw.s (Fw.val_move rfl) rfl ?_
  refine Fw.gT (d := 144) rfl rfl ?_
  refine Fw.s (Fw.val_move rfl) rfl ?_
  refine Fw.gT (d := 144) rfl rfl ?_
  refine Fw.s (Fw.val_move rfl) rfl ?_
  refine Fw.gT (d := 144) rfl rfl ?_
  refine Fw.call cf18 rfl rfl (awDiv3 _ AL cL AL cL (HL14.low H2) (HL14.low H2)) ?_
  rintro e_ w25 ⟨rfl, hb⟩
  refine ⟨_, rfl, ?_⟩
  replace HXb := HXb.low hb
  replace H2 := H2.trans (hb.mono H2.size)
  replace HSP := own_below HSP hb (Nat.le_refl _)
  replace HK1 := own_below HK1 hb (Nat.le_refl _)
  replace HK2 := own_below HK2 hb (Nat.le_refl _)
  replace HB := HB.trans (hb.mono HB.size)
  clear hb
  refine Fw.gT (d := 144) rfl rfl ?_
  refine Fw.s (Fw.Val.T (Fw.val_bin rfl rfl Fw.b_eql) (by decide)) rfl ?_
  refine Fw.s (Fw.val_pickT rfl rfl) rfl ?_
  refine Fw.s (Fw.val_assign rfl) rfl ?_
  refine Fw.nil ?_
  refine hK18 _ _ (Fw.FC.sub (f' := [(0, _)]) (.cons rfl .nil) ?_)
  refine Fw.ret ?_
  refine Fw.ret_ [.tmp 0] [_] Try.results10 (.tmp rfl .nil) ?_
  exact ⟨rfl, HB⟩
end Go.Proofs.Ytgmhcfhmpjpomaa
