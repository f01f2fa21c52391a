/- Layer 9: the program's graph, and the example that the laws check first. -/
import Derived.Test.YtenljoccfjlncaaRgJ
namespace Go.Proofs.Ytenljoccfjlncaa
set_option linter.unusedSimpArgs false
set_option linter.unusedVariables false
open Go.RowKit

namespace Rg
def Ed.re (e : Ed) : Re := ⟨e.f, e.t, e.m⟩
theorem re_cells (E : List Ed) : (E.map Ed.re).flatMap Re.cells = E.flatMap Ed.cells := by rw [List.flatMap_map]; rfl
/-- what a small valid graph is -/
structure Net (N : Nat) (E : List Ed) : Prop where
  ok : EOk N E
  n : 1 ≤ N ∧ N ≤ 12
  e : E.length ≤ 40
  m : ∀ e ∈ E, 1 ≤ e.m ∧ (e.m ≤ 1048576 ∨ e.m = 4611686018427387904)
theorem Net.right {N : Nat} {E : List Ed} (h : Net N E) : Right N (E.map Ed.re) :=
  ⟨by have := h.n; omega, by rw [List.length_map]; exact h.e, fun e he => by
    obtain ⟨x, hx, rfl⟩ := List.mem_map.1 he
    have h1 := h.ok x hx; have h2 := h.m x hx
    show (0 ≤ (x.f : Int) ∧ (x.f : Int) < N) ∧ (0 ≤ (x.t : Int) ∧ (x.t : Int) < N) ∧ 1 ≤ x.m ∧ _
    exact ⟨by omega, by omega, h2⟩⟩
theorem right_net {N : Int} {R : List Re} (h : Right N R) : ∃ (M : Nat) (E : List Ed), N = M ∧ R = E.map Ed.re ∧ Net M E := by
  refine ⟨N.toNat, R.map fun e => ⟨e.f.toNat, e.t.toNat, e.m⟩, by have := h.1; omega, ?_, ?_⟩
  · rw [List.map_map]
    refine (List.map_id R).symm.trans (List.map_congr_left fun e he => ?_)
    have := h.2.2 e he
    obtain ⟨h1, h2, _⟩ := this
    show e = ⟨((e.f.toNat : Nat) : Int), ((e.t.toNat : Nat) : Int), e.m⟩
    rw [Int.toNat_of_nonneg h1.1, Int.toNat_of_nonneg h2.1]
  · refine ⟨fun e he => ?_, by have := h.1; omega, by rw [List.length_map]; exact h.2.1, fun e he => ?_⟩
    · obtain ⟨x, hx, rfl⟩ := List.mem_map.1 he
      have := h.2.2 x hx
      obtain ⟨h1, h2, _⟩ := this
      show x.f.toNat < N.toNat ∧ x.t.toNat < N.toNat
      omega
    · obtain ⟨x, hx, rfl⟩ := List.mem_map.1 he
      exact (h.2.2 x hx).2.2
theorem some_of {A : Option Addr} {a b : Nat} (h : A.map (·.block) = some a ∨ A.map (·.block) = some b) : ∃ ad, A = some ad := by
  cases A with
  | none => rcases h with h | h <;> cases h
  | some ad => exact ⟨ad, rfl⟩
theorem Net.swap {N : Nat} {E : List Ed} (h : Net N E) : Net N (E.map Ed.swap) := ⟨swap_ok h.ok, h.n, by rw [List.length_map]; exact h.e, fun e he => by
  obtain ⟨x, hx, rfl⟩ := List.mem_map.1 he; exact h.m x hx⟩
end Rg
set_option maxRecDepth 100000 in
set_option maxHeartbeats 1000000 in
theorem lfew_any (w : World) (A : Option Addr) (n c : Nat) (A' : Option Addr) (n' c' : Nat) : Calls Try.prog 13 #[.slice A n c, .slice A' n' c'] w fun e_ w' => e_ = .returned (.bool (decide (n ≤ 60 ∧ n' ≤ 60))) ∧ w = w' := by
  refine Fw.calls Try.func13 rfl Try.ntmps13 rfl ?_
  refine Fw.seq fun _ hK1 => ?_
  refine Fw.region ?_
  refine Fw.s (Fw.val_assign rfl) rfl ?_
  refine Fw.nil ?_
  refine hK1 _ _ ?_
  refine Fw.seq fun _ hK2 => ?_
  refine Fw.region ?_
  refine Fw.s (Fw.val_move rfl) rfl ?_
  refine Fw.s (Fw.val_len Try.underlying25 rfl) rfl ?_
  refine Fw.s2 (Fw.val_bin rfl rfl Fw.b_leq) rfl ?_ ?_
  · rintro h1
    refine Fw.s (Fw.val_move rfl) rfl ?_
    refine Fw.gT (d := 8) rfl rfl ?_
    refine Fw.s (Fw.val_move rfl) rfl ?_
    refine Fw.gT (d := 8) rfl rfl ?_
    refine Fw.s (Fw.val_len Try.underlying26 rfl) rfl ?_
    refine Fw.gT (d := 8) rfl rfl ?_
    refine Fw.s2 (Fw.val_bin rfl rfl Fw.b_leq) rfl ?_ ?_
    · rintro h2
      refine Fw.s (Fw.val_pickT rfl rfl) rfl ?_
      refine Fw.s (Fw.val_assign rfl) rfl ?_
      refine Fw.nil ?_
      refine hK2 _ _ (Fw.FC.sub (f' := [(4, _)]) (.cons rfl .nil) ?_)
      refine Fw.ret ?_
      refine Fw.ret_ [.tmp 4] [_] Try.results13 (.tmp rfl .nil) ?_
      exact ⟨ret_bool (decide_eq_true (by omega)).symm, rfl⟩
    · rintro h2
      refine Fw.s (Fw.val_pickT rfl rfl) rfl ?_
      refine Fw.s (Fw.val_assign rfl) rfl ?_
      refine Fw.nil ?_
      refine hK2 _ _ (Fw.FC.sub (f' := [(4, _)]) (.cons rfl .nil) ?_)
      refine Fw.ret ?_
      refine Fw.ret_ [.tmp 4] [_] Try.results13 (.tmp rfl .nil) ?_
      exact ⟨ret_bool (decide_eq_false (by omega)).symm, rfl⟩
  · rintro h1
    refine Fw.s (Fw.val_move rfl) rfl ?_
    refine Fw.gF (d := 8) rfl rfl rfl rfl ?_
    refine Fw.gF (d := 8) rfl rfl rfl rfl ?_
    refine Fw.gF (d := 8) rfl rfl rfl rfl ?_
    refine Fw.s (Fw.val_pickF rfl rfl) rfl ?_
    refine Fw.s (Fw.val_assign rfl) rfl ?_
    refine Fw.nil ?_
    refine hK2 _ _ (Fw.FC.sub (f' := [(4, _)]) (.cons rfl .nil) ?_)
    refine Fw.ret ?_
    refine Fw.ret_ [.tmp 4] [_] Try.results13 (.tmp rfl .nil) ?_
    exact ⟨ret_bool (decide_eq_false (by omega)).symm, rfl⟩

set_option maxRecDepth 100000 in
set_option maxHeartbeats 1000000 in
theorem netNo_any (w : World) (N : Int) (R : List Rg.Re) (Ae : Option Addr) (ce : Nat) (hR : Rd w Ae (R.flatMap Rg.Re.cells)) (hno : ¬ Rg.Right N R) : Calls Try.prog 11 #[.agg #[.int .i64 N, .slice Ae R.length ce]] w fun e_ w' => e_ = .returned (.pointer none) ∧ Below w.heap.size w w' := by
  refine Fw.calls Try.func11 rfl Try.ntmps11 rfl ?_
  have HB := Below.refl (w.heap.size) w
  refine Fw.seq fun _ hK1 => ?_
  refine Fw.region ?_
  refine Fw.box rfl rfl ?_
  intro w1 gn egn Hn hb
  have lgn : w.heap.size ≤ gn := by have := HB.size; omega
  replace HB := HB.trans (hb.mono HB.size)
  clear hb
  clear egn
  refine Fw.s (Fw.val_assign rfl) rfl ?_
  refine Fw.nil ?_
  refine hK1 _ _ ?_
  refine Fw.seq fun _ hK2 => ?_
  refine Fw.seq fun _ hK3 => ?_
  refine Fw.region ?_
  refine Fw.ldA ag24 rfl (Fw.rdBlk Hn) rfl rfl ?_
  refine Fw.call cf27 rfl rfl (right_any _ N R Ae ce (hR.low HB)) ?_
  rintro e_ w2 ⟨rfl, hb⟩
  refine ⟨_, rfl, ?_⟩
  replace Hn := Hn.low hb
  replace HB := HB.trans (hb.mono HB.size)
  clear hb
  rw [decide_eq_false hno]
  refine Fw.s (Fw.val_not rfl) rfl ?_
  refine Fw.nil ?_
  refine hK3 _ _ ?_
  refine Fw.condT rfl ?_
  refine Fw.seq fun _ hK4 => ?_
  refine Fw.region ?_
  refine Fw.s (Fw.val_assign rfl) rfl ?_
  refine Fw.nil ?_
  refine hK4 _ _ ?_
  refine Fw.ret ?_
  refine Fw.X_ret ?_
  refine Fw.ret_ [.tmp 2] [_] Try.results11 (.tmp rfl .nil) ?_
  exact ⟨rfl, HB⟩

set_option maxRecDepth 100000 in
set_option maxHeartbeats 1000000 in
theorem net_any (w : World) (N : Nat) (E : List Rg.Ed) (Ae : Option Addr) (ce : Nat) (hE : Rd w Ae (E.flatMap Rg.Ed.cells)) (hn : Rg.Net N E) : Calls Try.prog 11 #[.agg #[.int .i64 (N : Int), .slice Ae E.length ce]] w fun e_ w' => ∃ g', e_ = .returned (.pointer (some ⟨g', 0, none⟩)) ∧ Rg.GAt w' g' N E ∧ Below w.heap.size w w' := by
  have hn1 := hn.n
  have hn2 := hn.e
  refine Fw.calls Try.func11 rfl Try.ntmps11 rfl ?_
  have HB := Below.refl (w.heap.size) w
  refine Fw.seq fun _ hK1 => ?_
  refine Fw.region ?_
  refine Fw.box rfl rfl ?_
  intro w1 gn egn Hn hb
  have lgn : w.heap.size ≤ gn := by have := HB.size; omega
  replace HB := HB.trans (hb.mono HB.size)
  clear hb
  clear egn
  refine Fw.s (Fw.val_assign rfl) rfl ?_
  refine Fw.nil ?_
  refine hK1 _ _ ?_
  refine Fw.seq fun _ hK2 => ?_
  refine Fw.seq fun _ hK3 => ?_
  refine Fw.region ?_
  refine Fw.ldA ag24 rfl (Fw.rdBlk Hn) rfl rfl ?_
  refine Fw.call cf27 rfl rfl ((show Calls _ _ #[.agg #[.int .i64 (N : Int), .slice Ae E.length ce]] _ _ from by have := right_any _ N (E.map Rg.Ed.re) Ae ce (by rw [Rg.re_cells]; exact hE.low HB); rw [List.length_map, decide_eq_true hn.right] at this; exact this)) ?_
  rintro e_ w2 ⟨rfl, hb⟩
  refine ⟨_, rfl, ?_⟩
  replace Hn := Hn.low hb
  replace HB := HB.trans (hb.mono HB.size)
  clear hb
  refine Fw.s (Fw.val_not rfl) rfl ?_
  refine Fw.nil ?_
  refine hK3 _ _ ?_
  refine Fw.condF rfl ?_
  refine Fw.skip ?_
  refine hK2 _ _ ?_
  refine Fw.seq fun _ hK4 => ?_
  refine Fw.regionH (by kernel_rfl) ?_
  have R_Hn := Hn
  have R_HB := HB
  intro w3 hb
  have HS := hb
  replace Hn := Hn.low hb
  replace HB := HB.trans (hb.mono HB.size)
  clear hb
  refine Fw.hTake 0 rfl rfl (by kernel_rfl) (by kernel_rfl) (by kernel_rfl) (Fw.yV (Fw.val_fieldAddr fl24_0 rfl rfl)) rfl ?_
  refine Fw.hTake 1 rfl rfl (by kernel_rfl) (by kernel_rfl) (by kernel_rfl) (Fw.yV (Fw.hLd sc3 rfl (R_Hn.cell 0))) rfl ?_
  refine Fw.hTake 3 rfl rfl (by kernel_rfl) (by kernel_rfl) (by kernel_rfl) (Fw.yV (Fw.val_fieldAddr fl24_1 rfl rfl)) rfl ?_
  refine Fw.hTake 4 rfl rfl (by kernel_rfl) (by kernel_rfl) (by kernel_rfl) (Fw.yV (Fw.hLd sc22 rfl (R_Hn.cell 1))) rfl ?_
  refine Fw.hAll1 2 (by kernel_rfl) ?_
  refine Fw.hOp 2 rfl ?_
  refine Fw.buildSlice [] sl22 rfl rfl (by exact Fw.allSz rfl) (by decide) rfl ?_
  intro w4 gS11 egS11 HS11 hb
  have rgS11 : w2.heap.size ≤ gS11 := by have := HS.size; omega
  have n_gn_gS11 : gn < gS11 := by have := Hn.lt; omega
  have lgS11 : w.heap.size ≤ gS11 := by have := HB.size; omega
  replace Hn := Hn.low hb
  replace HS := HS.trans (hb.mono HS.size)
  replace HB := HB.trans (hb.mono HB.size)
  clear hb
  clear egS11
  refine Fw.hNext HS ?_
  refine Fw.hAll1 5 (by kernel_rfl) ?_
  refine Fw.hOp 5 rfl ?_
  refine Fw.append (base := w2.heap.size) (E.length) (E.flatMap Rg.Ed.cells) sl22 rfl rfl (Fw.own_blk HS11 rgS11 (by unfold maxLen; omega) rfl) (hE.low HB) (Rg.flat3 Rg.Ed.len E) (Rg.one_eds E) (by unfold maxLen; omega) HS.size (Nat.zero_add _) rfl rfl ?_
  intro A14 c14 w5 N_ hbb hc hrow
  have hAs : A14.map (·.block) = some gS11 ∨ A14.map (·.block) = some w4.heap.size := hrow
  replace Hn := Hn.chg hc (fun e => by have e : some gn = some gS11 := e; injection e with e; omega)
  replace HS := HS.trans hbb
  replace HB := HB.trans (hbb.mono R_HB.size)
  clear hbb hc hrow HS11
  refine Fw.hNext HS ?_
  refine Fw.hAll1 6 (by kernel_rfl) ?_
  refine Fw.hOp 6 rfl ?_
  refine Fw.call cf28 rfl rfl (new_any _ N E A14 c14 (Rd.of_own N_) hn.ok (by omega) (by omega) hn.m (Rg.some_of hAs)) ?_
  rintro e_ w6 ⟨g2, rfl, hG2, hg2, hb⟩
  refine ⟨_, rfl, ?_⟩
  replace Hn := Hn.low hb
  replace HS := HS.trans (hb.mono HS.size)
  replace HB := HB.trans (hb.mono HB.size)
  clear hb
  refine Fw.hNext HS ?_
  refine Fw.hTake 7 rfl rfl (by kernel_rfl) (by kernel_rfl) (by kernel_rfl) (Fw.yV (Fw.val_move rfl)) rfl ?_
  refine Fw.hTake 8 rfl rfl (by kernel_rfl) (by kernel_rfl) (by kernel_rfl) (Fw.yV (Fw.val_extract rfl rfl)) rfl ?_
  refine Fw.hTake 9 rfl rfl (by kernel_rfl) (by kernel_rfl) (by kernel_rfl) (Fw.yV (Fw.val_extract rfl rfl)) rfl ?_
  refine Fw.hTake 10 rfl rfl (by kernel_rfl) (by kernel_rfl) (by kernel_rfl) (Fw.yV (Fw.val_assign rfl)) rfl ?_
  refine Fw.hTake 11 rfl rfl (by kernel_rfl) (by kernel_rfl) (by kernel_rfl) (Fw.yV (Fw.val_assign rfl)) rfl ?_
  refine Fw.hDone (by kernel_rfl) ?_
  refine hK4 _ _ (Fw.FC.sub (f' := [(4, _), (3, _)]) (.cons rfl (.cons rfl .nil)) ?_)
  refine Fw.seq fun _ hK5 => ?_
  refine Fw.seq fun _ hK6 => ?_
  refine Fw.region ?_
  refine Fw.s (Fw.val_move rfl) rfl ?_
  refine Fw.s (Fw.Val.F (Fw.val_bin rfl rfl Fw.b_neq) (by decide)) rfl ?_
  refine Fw.nil ?_
  refine hK6 _ _ ?_
  refine Fw.condF rfl ?_
  refine Fw.skip ?_
  refine hK5 _ _ ?_
  refine Fw.seq fun _ hK7 => ?_
  refine Fw.region ?_
  refine Fw.s (Fw.val_move rfl) rfl ?_
  refine Fw.s (Fw.val_assign rfl) rfl ?_
  refine Fw.nil ?_
  refine hK7 _ _ ?_
  refine Fw.ret ?_
  refine Fw.ret_ [.tmp 2] [_] Try.results11 (.tmp rfl .nil) ?_
  exact ⟨g2, rfl, hG2, HB⟩

namespace Rg
abbrev g3 : List Ed := [⟨0, 1, 5⟩, ⟨1, 2, 5⟩, ⟨0, 2, 10⟩]
theorem g3_net : Net 3 g3 := ⟨by unfold EOk; decide, by decide, by decide, by decide⟩
theorem own_cellN {w : World} {base e n c g : Nat} {l : List Nat} (h : w.ownsRow base e 1 (.slice (some ⟨g, 0, none⟩) n c) n (ints l)) (i : Nat) (hi : i < l.length) : w.cell? ⟨g, i, none⟩ = some (.int .i64 (l[i] : Int)) := by
  have h' : w.ownsRow base e 1 (.slice (some ⟨g, 0, none⟩) n c) n ((l.map fun (j : Nat) => (j : Int)).map (.int .i64)) := by rw [List.map_map]; exact h
  have := own_cell h' i (by rw [List.length_map]; exact hi)
  rw [this, List.getElem_map]
theorem g3_from {dl : List Int} (hl : dl.length = 3) (h : Sp.IsDist (arcT 3 g3 [5, 5, 10] true) 1048576 (fun v => (v : Int) ∈ [(0 : Int)]) (Sp.ix dl)) : dl = [0, 5, 10] := by
  rw [← Sp.rounds_list (arcT_ok _ _ g3_net.ok) hl h]; decide
theorem dist_at {E : List Ed} {ts : List Int} {D : Nat → Int} {b N : Nat} (hE : EOk N E) (hD : Sp.IsDist (Sp.star (arcT N E ts false)) 8589934593 (· = b) D) {v : Nat} (hv : v < N) : D v = Sp.ix (Sp.rounds (Sp.star (arcT N E ts false)) (Sp.init N [(b : Int)]) N) v :=
  (Sp.rounds_eq (A := Sp.star (arcT N E ts false)) (Sp.star_ok (arcT_ok ts false hE)) hD [(b : Int)] (fun v _ => by rw [List.mem_singleton]; omega) v hv).symm
theorem dist_ex {N : Nat} {E : List Ed} (ts : List Int) {b : Nat} (hE : EOk N E) (hN : N ≤ 12) (hb : b < N) : ∃ D, Sp.IsDist (Sp.star (arcT N E ts false)) 8589934593 (· = b) D :=
  Sp.exists_dist (A := Sp.star (arcT N E ts false)) (Sp.star_ok (arcT_ok ts false hE)) (by show (N : Int) * 8589934593 + 1 < 4611686018427387904; omega) (by decide) (by show N ≤ 4096; omega) hb
theorem g3_way1 {D : Nat → Int} (hD : Sp.IsDist (Sp.star (arcT 3 g3 [5, 5, 10] false)) 8589934593 (· = 2) D) : D 0 = 81921 ∧ ∀ l, Sp.Trail (arcT 3 g3 [5, 5, 10] false) D 2 0 l → l = [2] := by
  have h0 : D 0 = 81921 := (dist_at g3_net.ok hD (by decide)).trans (by decide)
  have h1 : D 1 = 40961 := (dist_at g3_net.ok hD (by decide)).trans (by decide)
  have h2 : D 2 = 0 := (dist_at g3_net.ok hD (by decide)).trans (by decide)
  refine ⟨h0, fun l hl => hl.unique (.cons (by decide) ⟨⟨⟨by decide, by decide⟩, by decide, ?_, ?_⟩, fun j hj hn => ?_⟩ .nil)⟩
  · show D 2 ≠ _; rw [h2]; decide
  · show D 0 = D 2 + _; rw [h0, h2]; decide
  · obtain rfl | rfl : j = 0 ∨ j = 1 := by omega
    · have e : D 0 = D 1 + (5 * 8192 + 1) := hn.2.2.2
      omega
    · exact absurd hn.2.1 (by decide)
theorem g3_way2 {D : Nat → Int} (hD : Sp.IsDist (Sp.star (arcT 3 g3 [5, 5, 4611686018427387904] false)) 8589934593 (· = 2) D) : D 0 = 81922 ∧ ∀ l, Sp.Trail (arcT 3 g3 [5, 5, 4611686018427387904] false) D 2 0 l → l = [0, 1] := by
  have h0 : D 0 = 81922 := (dist_at g3_net.ok hD (by decide)).trans (by decide)
  have h1 : D 1 = 40961 := (dist_at g3_net.ok hD (by decide)).trans (by decide)
  have h2 : D 2 = 0 := (dist_at g3_net.ok hD (by decide)).trans (by decide)
  refine ⟨h0, fun l hl => hl.unique (.cons (by decide) ⟨⟨⟨by decide, by decide⟩, by decide, ?_, ?_⟩, fun j hj hn => ?_⟩ (.cons (by decide) ⟨⟨⟨by decide, by decide⟩, by decide, ?_, ?_⟩, fun j hj hn => ?_⟩ .nil))⟩
  · show D 1 ≠ _; rw [h1]; decide
  · show D 0 = D 1 + _; rw [h0, h1]; decide
  · omega
  · show D 2 ≠ _; rw [h2]; decide
  · show D 1 = D 2 + _; rw [h1, h2]; decide
  · obtain rfl : j = 0 := by omega
    exact absurd hn.2.1 (by decide)
theorem g3_way3 {D : Nat → Int} (hD : Sp.IsDist (Sp.star (arcT 3 g3 [] false)) 8589934593 (· = 2) D) : D 0 = Sp.INF := (dist_at g3_net.ok hD (by decide)).trans (by decide)
end Rg
end Go.Proofs.Ytenljoccfjlncaa
