/- TopElects: memberships. -/
import Derived.Test.YtgpdodhegacndaaElA
namespace Go.Proofs.Ytgpdodhegacndaa
set_option linter.unusedSimpArgs false
set_option linter.unusedVariables false
open Go.RowKit

set_option maxRecDepth 100000 in
set_option maxHeartbeats 1000000 in
theorem valid_any (w : World) (Ao : Option Addr) (old : List Int) (co : Nat) (An : Option Addr) (new : List Int) (cn : Nat) (hAo : Rd w Ao (old.map (.int .i64))) (hAn : Rd w An (new.map (.int .i64))) : Calls Try.prog 16 #[.agg #[.slice Ao old.length co, .slice An new.length cn]] w fun e_ w' => ∃ b, e_ = .returned (.bool b) ∧ (b = true ↔ El.Vl old new) ∧ Below w.heap.size w w' := by
  refine Fw.calls Try.func16 rfl Try.ntmps16 rfl ?_
  have HB := Below.refl (w.heap.size) w
  refine Fw.seq fun _ hK1 => ?_
  refine Fw.region ?_
  refine Fw.box rfl rfl ?_
  intro w1 gm egm Hm hb
  have lgm : w.heap.size ≤ gm := by have := HB.size; omega
  replace HB := HB.trans (hb.mono HB.size)
  clear hb
  clear egm
  refine Fw.s (Fw.val_assign rfl) rfl ?_
  refine Fw.nil ?_
  refine hK1 _ _ ?_
  refine Fw.seq fun _ hK2 => ?_
  refine Fw.region ?_
  refine Fw.s (Fw.val_fieldAddr fl26_0 rfl rfl) rfl ?_
  refine Fw.ld sc23 rfl (Hm.cell 0) rfl ?_
  refine Fw.call cf17 rfl rfl (memberList_any _ Ao old co (hAo.low HB)) ?_
  rintro e_ _ ⟨b5, rfl, h5, rfl⟩
  refine ⟨_, rfl, ?_⟩
  refine Fw.b2 ?_ ?_
  · rintro rfl
    refine Fw.s (Fw.val_move rfl) rfl ?_
    refine Fw.gT (d := 6) rfl rfl ?_
    refine Fw.s (Fw.val_fieldAddr fl26_1 rfl rfl) rfl ?_
    refine Fw.gT (d := 6) rfl rfl ?_
    refine Fw.ld sc23 rfl (Hm.cell 1) rfl ?_
    refine Fw.gT (d := 6) rfl rfl ?_
    refine Fw.s (Fw.val_len Try.underlying23 rfl) rfl ?_
    refine Fw.gT (d := 6) rfl rfl ?_
    refine Fw.s2 (Fw.val_bin rfl rfl Fw.b_eql) rfl ?_ ?_
    · rintro h0
      refine Fw.gT (d := 6) rfl rfl ?_
      refine Fw.s (Fw.val_move rfl) rfl ?_
      refine Fw.gF (d := 11) rfl rfl rfl rfl ?_
      refine Fw.gF (d := 11) rfl rfl rfl rfl ?_
      refine Fw.gF (d := 11) rfl rfl rfl rfl ?_
      refine Fw.gT (d := 6) rfl rfl ?_
      refine Fw.s (Fw.val_pickT rfl rfl) rfl ?_
      refine Fw.s (Fw.val_pickT rfl rfl) rfl ?_
      refine Fw.s (Fw.val_assign rfl) rfl ?_
      refine Fw.nil ?_
      refine hK2 _ _ (Fw.FC.sub (f' := [(2, _)]) (.cons rfl .nil) ?_)
      refine Fw.ret ?_
      refine Fw.ret_ [.tmp 2] [_] Try.results16 (.tmp rfl .nil) ?_
      exact ⟨true, rfl, ⟨fun _ => ⟨h5.1 rfl, .inl (by omega)⟩, fun _ => rfl⟩, HB⟩
    · rintro h0
      refine Fw.gT (d := 6) rfl rfl ?_
      refine Fw.s (Fw.val_move rfl) rfl ?_
      refine Fw.gT (d := 11) rfl rfl ?_
      refine Fw.s (Fw.val_fieldAddr fl26_1 rfl rfl) rfl ?_
      refine Fw.gT (d := 11) rfl rfl ?_
      refine Fw.ld sc23 rfl (Hm.cell 1) rfl ?_
      refine Fw.gT (d := 11) rfl rfl ?_
      refine Fw.call cf17 rfl rfl (memberList_any _ An new cn (hAn.low HB)) ?_
      rintro e_ _ ⟨b14, rfl, h14, rfl⟩
      refine ⟨_, rfl, ?_⟩
      refine Fw.b2 ?_ ?_
      · rintro rfl
        refine Fw.gT (d := 6) rfl rfl ?_
        refine Fw.s (Fw.val_pickF rfl rfl) rfl ?_
        refine Fw.s (Fw.val_pickT rfl rfl) rfl ?_
        refine Fw.s (Fw.val_assign rfl) rfl ?_
        refine Fw.nil ?_
        refine hK2 _ _ (Fw.FC.sub (f' := [(2, _)]) (.cons rfl .nil) ?_)
        refine Fw.ret ?_
        refine Fw.ret_ [.tmp 2] [_] Try.results16 (.tmp rfl .nil) ?_
        exact ⟨true, rfl, ⟨fun _ => ⟨h5.1 rfl, .inr (h14.1 rfl)⟩, fun _ => rfl⟩, HB⟩
      · rintro rfl
        refine Fw.gT (d := 6) rfl rfl ?_
        refine Fw.s (Fw.val_pickF rfl rfl) rfl ?_
        refine Fw.s (Fw.val_pickT rfl rfl) rfl ?_
        refine Fw.s (Fw.val_assign rfl) rfl ?_
        refine Fw.nil ?_
        refine hK2 _ _ (Fw.FC.sub (f' := [(2, _)]) (.cons rfl .nil) ?_)
        refine Fw.ret ?_
        refine Fw.ret_ [.tmp 2] [_] Try.results16 (.tmp rfl .nil) ?_
        exact ⟨false, rfl, ⟨fun h_ => Bool.noConfusion h_, fun h_ => by rcases h_.2 with h_ | h_; omega; have := h14.2 h_; simp at this⟩, HB⟩
  · rintro rfl
    refine Fw.s (Fw.val_move rfl) rfl ?_
    refine Fw.gF (d := 6) rfl rfl rfl rfl ?_
    refine Fw.gF (d := 6) rfl rfl rfl rfl ?_
    refine Fw.gF (d := 6) rfl rfl rfl rfl ?_
    refine Fw.gF (d := 6) rfl rfl rfl rfl ?_
    refine Fw.gF (d := 6) rfl rfl rfl rfl ?_
    refine Fw.gU (d := 11) rfl rfl rfl ?_
    refine Fw.gU (d := 11) rfl rfl rfl ?_
    refine Fw.gU (d := 11) rfl rfl rfl ?_
    refine Fw.gF (d := 6) rfl rfl rfl rfl ?_
    refine Fw.s (Fw.val_pickF rfl rfl) rfl ?_
    refine Fw.s (Fw.val_assign rfl) rfl ?_
    refine Fw.nil ?_
    refine hK2 _ _ (Fw.FC.sub (f' := [(2, _)]) (.cons rfl .nil) ?_)
    refine Fw.ret ?_
    refine Fw.ret_ [.tmp 2] [_] Try.results16 (.tmp rfl .nil) ?_
    exact ⟨false, rfl, ⟨fun h_ => Bool.noConfusion h_, fun h_ => by have := h5.2 h_.1; simp at this⟩, HB⟩

set_option maxRecDepth 100000 in
set_option maxHeartbeats 1000000 in
theorem reached_any (w : World) (Ao : Option Addr) (old : List Int) (co : Nat) (An : Option Addr) (new : List Int) (cn : Nat) (hAo : Rd w Ao (old.map (.int .i64))) (hAn : Rd w An (new.map (.int .i64))) (hol : old.length ≤ 65536) (hnl : new.length ≤ 65536) (Ay : Option Addr) (yes : List Int) (cy : Nat) (hy : Rd w Ay (yes.map (.int .i64))) (hyl : yes.length ≤ 65536) : Calls Try.prog 14 #[.agg #[.slice Ao old.length co, .slice An new.length cn], .slice Ay yes.length cy] w fun e_ w' => ∃ b, e_ = .returned (.bool b) ∧ (b = true ↔ El.Rea old new yes) ∧ Below w.heap.size w w' := by
  refine Fw.calls Try.func14 rfl Try.ntmps14 rfl ?_
  have HB := Below.refl (w.heap.size) w
  refine Fw.seq fun _ hK1 => ?_
  refine Fw.region ?_
  refine Fw.box rfl rfl ?_
  intro w1 gm egm Hm hb
  have lgm : w.heap.size ≤ gm := by have := HB.size; omega
  replace HB := HB.trans (hb.mono HB.size)
  clear hb
  clear egm
  refine Fw.s (Fw.val_assign rfl) rfl ?_
  refine Fw.nil ?_
  refine hK1 _ _ ?_
  refine Fw.seq fun _ hK2 => ?_
  refine Fw.region ?_
  refine Fw.ldA ag26 rfl (Fw.rdBlk Hm) rfl rfl ?_
  refine Fw.call cf16 rfl rfl (valid_any _ Ao old co An new cn (hAo.low HB) (hAn.low HB)) ?_
  rintro e_ w2 ⟨b6, rfl, h6, hb⟩
  refine ⟨_, rfl, ?_⟩
  replace Hm := Hm.low hb
  replace HB := HB.trans (hb.mono HB.size)
  clear hb
  refine Fw.b2 ?_ ?_
  · rintro rfl
    refine Fw.s (Fw.val_move rfl) rfl ?_
    refine Fw.gT (d := 7) rfl rfl ?_
    refine Fw.s (Fw.val_fieldAddr fl26_0 rfl rfl) rfl ?_
    refine Fw.gT (d := 7) rfl rfl ?_
    refine Fw.ld sc23 rfl (Hm.cell 0) rfl ?_
    refine Fw.gT (d := 7) rfl rfl ?_
    refine Fw.s (Fw.val_move rfl) rfl ?_
    refine Fw.gT (d := 7) rfl rfl ?_
    refine Fw.call cf34 rfl rfl (qcontains_any _ Ao old co (hAo.low HB) hol Ay yes cy (hy.low HB) hyl) ?_
    rintro e_ _ ⟨b11, rfl, h11, rfl⟩
    refine ⟨_, rfl, ?_⟩
    refine Fw.b2 ?_ ?_
    · rintro rfl
      refine Fw.s (Fw.val_pickT rfl rfl) rfl ?_
      refine Fw.s (Fw.val_move rfl) rfl ?_
      refine Fw.gT (d := 13) rfl rfl ?_
      refine Fw.s (Fw.val_fieldAddr fl26_1 rfl rfl) rfl ?_
      refine Fw.gT (d := 13) rfl rfl ?_
      refine Fw.ld sc23 rfl (Hm.cell 1) rfl ?_
      refine Fw.gT (d := 13) rfl rfl ?_
      refine Fw.s (Fw.val_len Try.underlying23 rfl) rfl ?_
      refine Fw.gT (d := 13) rfl rfl ?_
      refine Fw.s2 (Fw.val_bin rfl rfl Fw.b_eql) rfl ?_ ?_
      · rintro h0
        refine Fw.gT (d := 13) rfl rfl ?_
        refine Fw.s (Fw.val_move rfl) rfl ?_
        refine Fw.gF (d := 18) rfl rfl rfl rfl ?_
        refine Fw.gF (d := 18) rfl rfl rfl rfl ?_
        refine Fw.gF (d := 18) rfl rfl rfl rfl ?_
        refine Fw.gF (d := 18) rfl rfl rfl rfl ?_
        refine Fw.gT (d := 13) rfl rfl ?_
        refine Fw.s (Fw.val_pickT rfl rfl) rfl ?_
        refine Fw.s (Fw.val_pickT rfl rfl) rfl ?_
        refine Fw.s (Fw.val_assign rfl) rfl ?_
        refine Fw.nil ?_
        refine hK2 _ _ (Fw.FC.sub (f' := [(4, _)]) (.cons rfl .nil) ?_)
        refine Fw.ret ?_
        refine Fw.ret_ [.tmp 4] [_] Try.results14 (.tmp rfl .nil) ?_
        exact ⟨true, rfl, ⟨fun _ => ⟨h6.1 rfl, h11.1 rfl, .inl (by omega)⟩, fun _ => rfl⟩, HB⟩
      · rintro h0
        refine Fw.gT (d := 13) rfl rfl ?_
        refine Fw.s (Fw.val_move rfl) rfl ?_
        refine Fw.gT (d := 18) rfl rfl ?_
        refine Fw.s (Fw.val_fieldAddr fl26_1 rfl rfl) rfl ?_
        refine Fw.gT (d := 18) rfl rfl ?_
        refine Fw.ld sc23 rfl (Hm.cell 1) rfl ?_
        refine Fw.gT (d := 18) rfl rfl ?_
        refine Fw.s (Fw.val_move rfl) rfl ?_
        refine Fw.gT (d := 18) rfl rfl ?_
        refine Fw.call cf34 rfl rfl (qcontains_any _ An new cn (hAn.low HB) hnl Ay yes cy (hy.low HB) hyl) ?_
        rintro e_ _ ⟨b22, rfl, h22, rfl⟩
        refine ⟨_, rfl, ?_⟩
        refine Fw.b2 ?_ ?_
        · rintro rfl
          refine Fw.gT (d := 13) rfl rfl ?_
          refine Fw.s (Fw.val_pickF rfl rfl) rfl ?_
          refine Fw.s (Fw.val_pickT rfl rfl) rfl ?_
          refine Fw.s (Fw.val_assign rfl) rfl ?_
          refine Fw.nil ?_
          refine hK2 _ _ (Fw.FC.sub (f' := [(4, _)]) (.cons rfl .nil) ?_)
          refine Fw.ret ?_
          refine Fw.ret_ [.tmp 4] [_] Try.results14 (.tmp rfl .nil) ?_
          exact ⟨true, rfl, ⟨fun _ => ⟨h6.1 rfl, h11.1 rfl, .inr (h22.1 rfl)⟩, fun _ => rfl⟩, HB⟩
        · rintro rfl
          refine Fw.gT (d := 13) rfl rfl ?_
          refine Fw.s (Fw.val_pickF rfl rfl) rfl ?_
          refine Fw.s (Fw.val_pickT rfl rfl) rfl ?_
          refine Fw.s (Fw.val_assign rfl) rfl ?_
          refine Fw.nil ?_
          refine hK2 _ _ (Fw.FC.sub (f' := [(4, _)]) (.cons rfl .nil) ?_)
          refine Fw.ret ?_
          refine Fw.ret_ [.tmp 4] [_] Try.results14 (.tmp rfl .nil) ?_
          exact ⟨false, rfl, ⟨fun h_ => Bool.noConfusion h_, fun h_ => by rcases h_.2.2 with h_ | h_; omega; have := h22.2 h_; simp at this⟩, HB⟩
    · rintro rfl
      refine Fw.s (Fw.val_pickT rfl rfl) rfl ?_
      refine Fw.s (Fw.val_move rfl) rfl ?_
      refine Fw.gF (d := 13) rfl rfl rfl rfl ?_
      refine Fw.gF (d := 13) rfl rfl rfl rfl ?_
      refine Fw.gF (d := 13) rfl rfl rfl rfl ?_
      refine Fw.gF (d := 13) rfl rfl rfl rfl ?_
      refine Fw.gF (d := 13) rfl rfl rfl rfl ?_
      refine Fw.gU (d := 18) rfl rfl rfl ?_
      refine Fw.gU (d := 18) rfl rfl rfl ?_
      refine Fw.gU (d := 18) rfl rfl rfl ?_
      refine Fw.gU (d := 18) rfl rfl rfl ?_
      refine Fw.gF (d := 13) rfl rfl rfl rfl ?_
      refine Fw.s (Fw.val_pickF rfl rfl) rfl ?_
      refine Fw.s (Fw.val_assign rfl) rfl ?_
      refine Fw.nil ?_
      refine hK2 _ _ (Fw.FC.sub (f' := [(4, _)]) (.cons rfl .nil) ?_)
      refine Fw.ret ?_
      refine Fw.ret_ [.tmp 4] [_] Try.results14 (.tmp rfl .nil) ?_
      exact ⟨false, rfl, ⟨fun h_ => Bool.noConfusion h_, fun h_ => by have := h11.2 h_.2.1; simp at this⟩, HB⟩
  · rintro rfl
    refine Fw.s (Fw.val_move rfl) rfl ?_
    refine Fw.gF (d := 7) rfl rfl rfl rfl ?_
    refine Fw.gF (d := 7) rfl rfl rfl rfl ?_
    refine Fw.gF (d := 7) rfl rfl rfl rfl ?_
    refine Fw.gF (d := 7) rfl rfl rfl rfl ?_
    refine Fw.s (Fw.val_pickF rfl rfl) rfl ?_
    refine Fw.s (Fw.val_move rfl) rfl ?_
    refine Fw.gF (d := 13) rfl rfl rfl rfl ?_
    refine Fw.gF (d := 13) rfl rfl rfl rfl ?_
    refine Fw.gF (d := 13) rfl rfl rfl rfl ?_
    refine Fw.gF (d := 13) rfl rfl rfl rfl ?_
    refine Fw.gF (d := 13) rfl rfl rfl rfl ?_
    refine Fw.gU (d := 18) rfl rfl rfl ?_
    refine Fw.gU (d := 18) rfl rfl rfl ?_
    refine Fw.gU (d := 18) rfl rfl rfl ?_
    refine Fw.gU (d := 18) rfl rfl rfl ?_
    refine Fw.gF (d := 13) rfl rfl rfl rfl ?_
    refine Fw.s (Fw.val_pickF rfl rfl) rfl ?_
    refine Fw.s (Fw.val_assign rfl) rfl ?_
    refine Fw.nil ?_
    refine hK2 _ _ (Fw.FC.sub (f' := [(4, _)]) (.cons rfl .nil) ?_)
    refine Fw.ret ?_
    refine Fw.ret_ [.tmp 4] [_] Try.results14 (.tmp rfl .nil) ?_
    exact ⟨false, rfl, ⟨fun h_ => Bool.noConfusion h_, fun h_ => by have := h6.2 h_.1; simp at this⟩, HB⟩

set_option maxRecDepth 100000 in
set_option maxHeartbeats 1000000 in
theorem cloneI_any (w : World) (A : Option Addr) (l : List Int) (c : Nat) (h : Rd w A (l.map (.int .i64))) (hl : l.length ≤ 65536) : Calls Try.prog 18 #[.slice A l.length c] w fun e_ w' => ∃ A' c', e_ = .returned (.slice A' l.length c') ∧ w'.ownsRow w.heap.size 3 1 (.slice A' l.length c') l.length (l.map (.int .i64)) ∧ Below w.heap.size w w' := by
  cases A with
  | none =>
    have hl0 : l = [] := by
      cases l with
      | nil => rfl
      | cons x l => obtain ⟨ad, e, _⟩ := h 0 _ rfl; cases e
    subst hl0
    refine Fw.calls Try.func18 rfl Try.ntmps18 rfl ?_
    have HB := Below.refl (w.heap.size) w
    refine Fw.seq fun _ hK1 => ?_
    refine Fw.region ?_
    refine Fw.s (Fw.val_assign rfl) rfl ?_
    refine Fw.nil ?_
    refine hK1 _ _ ?_
    refine Fw.seq fun _ hK2 => ?_
    refine Fw.seq fun _ hK3 => ?_
    refine Fw.region ?_
    refine Fw.s (Fw.val_move rfl) rfl ?_
    refine Fw.s (Fw.val_bin rfl rfl (Fw.b_nilS Try.underlying23)) rfl ?_
    refine Fw.nil ?_
    refine hK3 _ _ ?_
    refine Fw.condT rfl ?_
    refine Fw.seq fun _ hK4 => ?_
    refine Fw.region ?_
    refine Fw.s (Fw.val_assign rfl) rfl ?_
    refine Fw.nil ?_
    refine hK4 _ _ ?_
    refine Fw.ret ?_
    refine Fw.X_ret ?_
    refine Fw.ret_ [.tmp 2] [_] Try.results18 (.tmp rfl .nil) ?_
    exact ⟨none, 0, rfl, ⟨rfl, .inl ⟨rfl, rfl⟩⟩, HB⟩
  | some ad =>
    refine Fw.calls Try.func18 rfl Try.ntmps18 rfl ?_
    have HB := Below.refl (w.heap.size) w
    refine Fw.seq fun _ hK1 => ?_
    refine Fw.region ?_
    refine Fw.s (Fw.val_assign rfl) rfl ?_
    refine Fw.nil ?_
    refine hK1 _ _ ?_
    refine Fw.seq fun _ hK2 => ?_
    refine Fw.seq fun _ hK3 => ?_
    refine Fw.region ?_
    refine Fw.s (Fw.val_move rfl) rfl ?_
    refine Fw.s (Fw.val_bin rfl rfl (Fw.b_nilS Try.underlying23)) rfl ?_
    refine Fw.nil ?_
    refine hK3 _ _ ?_
    refine Fw.condF rfl ?_
    refine Fw.skip ?_
    refine hK2 _ _ ?_
    refine Fw.seq fun _ hK4 => ?_
    refine Fw.region ?_
    refine Fw.buildSlice [] sl23 rfl rfl (by exact Fw.allSz rfl) (by decide) rfl ?_
    intro w1 gS5 egS5 HS5 hb
    have lgS5 : w.heap.size ≤ gS5 := by have := HB.size; omega
    replace HB := HB.trans (hb.mono HB.size)
    clear hb
    clear egS5
    refine Fw.s (Fw.val_move rfl) rfl ?_
    refine Fw.append (l.length) (l.map (.int .i64)) sl23 rfl rfl (Fw.own_blk HS5 lgS5 (by unfold maxLen; omega) rfl) (h.low HB) (by simp) (El.one_ints l) (by unfold maxLen; omega) HB.size (Nat.zero_add _) rfl rfl ?_
    intro A7 c7 w2 N_ hbb hc hrow
    replace HB := HB.trans hbb
    clear hbb hc hrow HS5
    refine Fw.s (Fw.val_assign rfl) rfl ?_
    refine Fw.nil ?_
    refine hK4 _ _ (Fw.FC.sub (f' := [(2, _)]) (.cons rfl .nil) ?_)
    refine Fw.ret ?_
    refine Fw.ret_ [.tmp 2] [_] Try.results18 (.tmp rfl .nil) ?_
    exact ⟨A7, c7, rfl, N_, HB⟩

set_option maxRecDepth 100000 in
set_option maxHeartbeats 1000000 in
theorem begin_any (w : World) (Ao : Option Addr) (old : List Int) (co : Nat) (hAo : Rd w Ao (old.map (.int .i64))) (hol : old.length ≤ 65536) (hv : El.ML old) (Ax : Option Addr) (nx : List Int) (cx : Nat) (hx : Rd w Ax (nx.map (.int .i64))) (hxl : nx.length ≤ 65536) : Calls Try.prog 5 #[.agg #[.slice Ao old.length co, .slice none 0 0], .slice Ax nx.length cx] w fun e_ w' => ∃ A1 n1 c1 A2 n2 c2 e, e_ = .returned (.tuple #[.agg #[.slice A1 n1 c1, .slice A2 n2 c2], .int .i64 e]) ∧ ((El.ML nx ∧ e = 0 ∧ n1 = old.length ∧ n2 = nx.length ∧ Rd w' A1 (old.map (.int .i64)) ∧ Rd w' A2 (nx.map (.int .i64))) ∨ (¬ El.ML nx ∧ e = 1)) ∧ Below w.heap.size w w' := by
  refine Fw.calls Try.func5 rfl Try.ntmps5 rfl ?_
  have HB := Below.refl (w.heap.size) w
  refine Fw.seq fun _ hK1 => ?_
  refine Fw.region ?_
  refine Fw.box rfl rfl ?_
  intro w1 gm egm Hm hb
  have lgm : w.heap.size ≤ gm := by have := HB.size; omega
  replace HB := HB.trans (hb.mono HB.size)
  clear hb
  clear egm
  refine Fw.alloc ze26 rfl ?_
  intro w2 gr egr Hr hb
  have n_gm_gr : gm < gr := by have := Hm.lt; omega
  have lgr : w.heap.size ≤ gr := by have := HB.size; omega
  replace Hm := Hm.low hb
  replace HB := HB.trans (hb.mono HB.size)
  clear hb
  clear egr
  refine Fw.s (Fw.val_assign rfl) rfl ?_
  refine Fw.nil ?_
  refine hK1 _ _ ?_
  refine Fw.seq fun _ hK2 => ?_
  refine Fw.seq fun _ hK3 => ?_
  refine Fw.region ?_
  refine Fw.ldA ag26 rfl (Fw.rdBlk Hm) rfl rfl ?_
  refine Fw.call cf16 rfl rfl (valid_any _ Ao old co none [] 0 (hAo.low HB) (Rd.nil _ _)) ?_
  rintro e_ w3 ⟨b7, rfl, h7, hb⟩
  refine ⟨_, rfl, ?_⟩
  replace Hm := Hm.low hb
  replace Hr := Hr.low hb
  replace HB := HB.trans (hb.mono HB.size)
  clear hb
  refine Fw.bT (by exact h7.2 ⟨hv, .inl rfl⟩) ?_
  refine Fw.s (Fw.val_not rfl) rfl ?_
  refine Fw.s (Fw.val_move rfl) rfl ?_
  refine Fw.gT (d := 9) rfl rfl ?_
  refine Fw.s (Fw.val_move rfl) rfl ?_
  refine Fw.gT (d := 9) rfl rfl ?_
  refine Fw.call cf17 rfl rfl (memberList_any _ Ax nx cx (hx.low HB)) ?_
  rintro e_ _ ⟨b11, rfl, h11, rfl⟩
  refine ⟨_, rfl, ?_⟩
  refine Fw.b2 ?_ ?_
  · rintro rfl
    refine Fw.gT (d := 9) rfl rfl ?_
    refine Fw.s (Fw.val_not rfl) rfl ?_
    refine Fw.s (Fw.val_pickF rfl rfl) rfl ?_
    refine Fw.nil ?_
    refine hK3 _ _ (Fw.FC.sub (f' := [(13, _), (4, _), (2, _), (1, _)]) (.cons rfl (.cons rfl (.cons rfl (.cons rfl .nil)))) ?_)
    refine Fw.condF rfl ?_
    refine Fw.skip ?_
    refine hK2 _ _ ?_
    refine Fw.seq fun _ hK4 => ?_
    refine Fw.seq fun _ hK5 => ?_
    refine Fw.region ?_
    refine Fw.s (Fw.val_fieldAddr fl26_1 rfl rfl) rfl ?_
    refine Fw.ld sc23 rfl (Hm.cell 1) rfl ?_
    refine Fw.s (Fw.val_len Try.underlying23 rfl) rfl ?_
    refine Fw.s (Fw.Val.F (Fw.val_bin rfl rfl Fw.b_gtr) (by omega)) rfl ?_
    refine Fw.nil ?_
    refine hK5 _ _ ?_
    refine Fw.condF rfl ?_
    refine Fw.skip ?_
    refine hK4 _ _ ?_
    refine Fw.seq fun _ hK6 => ?_
    refine Fw.region ?_
    refine Fw.s (Fw.val_fieldAddr fl26_0 rfl rfl) rfl ?_
    refine Fw.ld sc23 rfl (Hm.cell 0) rfl ?_
    refine Fw.call cf18 rfl rfl (cloneI_any _ Ao old co (hAo.low HB) hol) ?_
    rintro e_ w4 ⟨A22, c22, rfl, H22, hb⟩
    refine ⟨_, rfl, ?_⟩
    replace Hm := Hm.low hb
    replace Hr := Hr.low hb
    replace HB := HB.trans (hb.mono HB.size)
    clear hb
    have HR22 := Fw.RdT.own H22
    clear H22
    refine Fw.s (Fw.val_move rfl) rfl ?_
    refine Fw.call cf18 rfl rfl (cloneI_any _ Ax nx cx (hx.low HB) hxl) ?_
    rintro e_ w5 ⟨A24, c24, rfl, H24, hb⟩
    refine ⟨_, rfl, ?_⟩
    replace Hm := Hm.low hb
    replace Hr := Hr.low hb
    replace HR22 := HR22.low hb
    replace HB := HB.trans (hb.mono HB.size)
    clear hb
    have HR24 := Fw.RdT.own H24
    clear H24
    refine Fw.s (Fw.val_build (ps := [(0, _), (1, _)]) rfl (bu26_0_1 _ _ _ _ _ _)) rfl ?_
    refine Fw.storeW sz26 rfl rfl Hr rfl rfl (by exact Fw.oneCells rfl) ?_
    intro w6 N_ hc
    replace Hm := Hm.chg hc (by omega)
    replace HR22 := (HR22).chg hc (Fw.RdT.ne_ HR22 Hr (by decide))
    replace HR24 := (HR24).chg hc (Fw.RdT.ne_ HR24 Hr (by decide))
    replace HB := HB.trans (hc.below (B := w.heap.size) (fun k e => by omega) HB.size)
    clear hc
    clear Hr
    have Hr := N_
    clear N_
    replace Hr : Blk w6 gr 26 #[.slice A22 old.length c22, .slice A24 nx.length c24] := Hr
    refine Fw.s (Fw.val_assign rfl) rfl ?_
    refine Fw.nil ?_
    refine hK6 _ _ (Fw.FC.sub (f' := [(5, _), (4, _)]) (.cons rfl (.cons rfl .nil)) ?_)
    refine Fw.ret ?_
    refine Fw.ret_ [.cell 4 26, .tmp 5] [_, _] Try.results5 (Fw.ResL.cellM rfl ag26 (Fw.rdBlk Hr) rfl (.tmp rfl .nil)) ?_
    exact ⟨_, _, _, _, _, _, _, rfl, .inl ⟨h11.1 rfl, rfl, rfl, rfl, HR22.1, HR24.1⟩, HB⟩
  · rintro rfl
    refine Fw.gT (d := 9) rfl rfl ?_
    refine Fw.s (Fw.val_not rfl) rfl ?_
    refine Fw.s (Fw.val_pickF rfl rfl) rfl ?_
    refine Fw.nil ?_
    refine hK3 _ _ (Fw.FC.sub (f' := [(13, _), (4, _), (2, _), (1, _)]) (.cons rfl (.cons rfl (.cons rfl (.cons rfl .nil)))) ?_)
    refine Fw.condT rfl ?_
    refine Fw.seq fun _ hK7 => ?_
    refine Fw.region ?_
    refine Fw.s (Fw.val_build (ps := []) rfl (bu26_)) rfl ?_
    refine Fw.storeW sz26 rfl rfl Hr rfl rfl (by exact Fw.oneCells rfl) ?_
    intro w7 N_ hc
    replace Hm := Hm.chg hc (by omega)
    replace HB := HB.trans (hc.below (B := w.heap.size) (fun k e => by omega) HB.size)
    clear hc
    clear Hr
    have Hr := N_
    clear N_
    replace Hr : Blk w7 gr 26 #[.slice none 0 0, .slice none 0 0] := Hr
    refine Fw.s (Fw.val_assign rfl) rfl ?_
    refine Fw.nil ?_
    refine hK7 _ _ ?_
    refine Fw.ret ?_
    refine Fw.X_ret ?_
    refine Fw.ret_ [.cell 4 26, .tmp 5] [_, _] Try.results5 (Fw.ResL.cellM rfl ag26 (Fw.rdBlk Hr) rfl (.tmp rfl .nil)) ?_
    exact ⟨_, _, _, _, _, _, _, rfl, .inr ⟨fun h_ => by have := h11.2 h_; simp at this, rfl⟩, HB⟩

end Go.Proofs.Ytgpdodhegacndaa
