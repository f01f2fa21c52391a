/- Layer 27: Assign, StandDown, Move, Report, MarkSilent, MergeIncident. -/
import Derived.Test.YtodhpooddmeghaaUsA
namespace Go.Proofs.Ytodhpooddmeghaa
set_option linter.unusedSimpArgs false
set_option linter.unusedVariables false
open Go.RowKit

set_option maxRecDepth 100000 in
set_option maxHeartbeats 1000000 in
theorem assign_any (w : World) (B p g c : Nat) (l : List Us.U) (id inc e n : Int) (h : RegAt w B p g c l) : Calls Try.prog 9 #[.pointer (some ⟨p, 0, none⟩), .int .i64 id, .int .i64 inc, .int .i64 e, .int .i64 n] w fun e_ w' => e_ = .returned (.int .i64 (Us.bindE l id inc e n)) ∧ RegAt w' B p g c (Us.bindL l id inc e n) ∧ Chg (· = g) w w' := by
  cases hth : Us.there l id with
  | true =>
    obtain ⟨i, hid, hi⟩ : ∃ i : Nat, id = i ∧ i < l.length := by have := of_decide_eq_true hth; exact ⟨(id).toNat, by omega, by omega⟩
    have hg := Us.get_at hid hi
    have HAt := h.at hi
    have HR := h
    have hlt := h.lt
    obtain ⟨hBp, hBg, HP, HO⟩ := h
    refine Fw.calls Try.func9 rfl Try.ntmps9 rfl ?_
    have HC := Chg.refl (· = g) w
    refine Fw.seq fun _ hK1 => ?_
    refine Fw.region ?_
    refine Fw.s (Fw.val_assign rfl) rfl ?_
    refine Fw.nil ?_
    refine hK1 _ _ ?_
    refine Fw.seq fun _ hK2 => ?_
    refine Fw.region ?_
    refine Fw.s (Fw.val_move rfl) rfl ?_
    refine Fw.s (Fw.val_move rfl) rfl ?_
    refine Fw.call cf32 rfl rfl (find_in _ B p g c l _ i hid hi HR) ?_
    rintro e_ _ ⟨rfl, rfl⟩
    refine ⟨_, rfl, ?_⟩
    refine Fw.s (Fw.val_assign rfl) rfl ?_
    refine Fw.nil ?_
    refine hK2 _ _ ?_
    refine Fw.seq fun _ hK3 => ?_
    refine Fw.seq fun _ hK4 => ?_
    refine Fw.region ?_
    refine Fw.s (Fw.val_move rfl) rfl ?_
    refine Fw.s (Fw.val_bin rfl rfl (Fw.b_nilP Try.underlying90)) rfl ?_
    refine Fw.s (Fw.val_move rfl) rfl ?_
    refine Fw.gT (d := 17) rfl rfl ?_
    refine Fw.s (Fw.val_move rfl) rfl ?_
    refine Fw.gT (d := 17) rfl rfl ?_
    refine Fw.call cf33 rfl rfl (validIncident_any _ _) ?_
    rintro e_ _ ⟨rfl, rfl⟩
    refine ⟨_, rfl, ?_⟩
    refine Fw.b2 ?_ ?_
    rintro h1
    refine Fw.gT (d := 17) rfl rfl ?_
    refine Fw.s (Fw.val_not rfl) rfl ?_
    refine Fw.s (Fw.val_pickF rfl rfl) rfl ?_
    refine Fw.s (Fw.val_move rfl) rfl ?_
    refine Fw.gT (d := 22) rfl rfl ?_
    refine Fw.s (Fw.val_move rfl) rfl ?_
    refine Fw.gT (d := 22) rfl rfl ?_
    refine Fw.s (Fw.val_move rfl) rfl ?_
    refine Fw.gT (d := 22) rfl rfl ?_
    refine Fw.call cf34 rfl rfl (validEpoch_any _ g (i * 15) l[i] _ (HAt.rd Us.U.len)) ?_
    rintro e_ _ ⟨rfl, rfl⟩
    refine ⟨_, rfl, ?_⟩
    refine Fw.b2 ?_ ?_
    rintro h2
    refine Fw.gT (d := 22) rfl rfl ?_
    refine Fw.s (Fw.val_not rfl) rfl ?_
    refine Fw.s (Fw.val_pickF rfl rfl) rfl ?_
    refine Fw.s (Fw.val_move rfl) rfl ?_
    refine Fw.gT (d := 28) rfl rfl ?_
    refine Fw.s (Fw.val_move rfl) rfl ?_
    refine Fw.gT (d := 28) rfl rfl ?_
    refine Fw.call cf28 rfl rfl (validNode_any _ _) ?_
    rintro e_ _ ⟨rfl, rfl⟩
    refine ⟨_, rfl, ?_⟩
    refine Fw.b2 ?_ ?_
    rintro h3
    refine Fw.gT (d := 28) rfl rfl ?_
    refine Fw.s (Fw.val_not rfl) rfl ?_
    refine Fw.s (Fw.val_pickF rfl rfl) rfl ?_
    refine Fw.nil ?_
    refine hK4 _ _ (Fw.FC.sub (f' := [(32, _), (11, _), (2, _), (3, _), (4, _)]) (.cons rfl (.cons rfl (.cons rfl (.cons rfl (.cons rfl .nil))))) ?_)
    refine Fw.condF rfl ?_
    refine Fw.skip ?_
    refine hK3 _ _ ?_
    refine Fw.seq fun _ hK5 => ?_
    refine Fw.seq fun _ hK6 => ?_
    refine Fw.region ?_
    refine Fw.s (Fw.val_move rfl) rfl ?_
    refine Fw.s (Fw.val_nil rfl) rfl ?_
    refine Fw.s (Fw.val_fieldAddr fl83_0 rfl rfl) rfl ?_
    refine Fw.s (Fw.val_fieldAddr fl69_3 rfl rfl) rfl ?_
    refine Fw.ld sc3 rfl (HAt.cell Us.U.len 3 rfl) rfl ?_
    refine Fw.s2 (Fw.val_bin rfl rfl Fw.b_neq) rfl ?_ ?_
    rintro hst
    refine Fw.nil ?_
    refine hK6 _ _ ?_
    refine Fw.condT rfl ?_
    refine Fw.seq fun _ hK8 => ?_
    refine Fw.region ?_
    refine Fw.s (Fw.val_assign rfl) rfl ?_
    refine Fw.nil ?_
    refine hK8 _ _ (Fw.FC.sub (f' := [(10, _)]) (.cons rfl .nil) ?_)
    refine Fw.ret ?_
    refine Fw.X_ret ?_
    refine Fw.ret_ [.tmp 10] [_] Try.results9 (.tmp rfl .nil) ?_
    have hE : Us.bindE l id inc e n = 8 := by simp [Us.bindE, hth, hg, h1, h2, h3, hst]
    have hL : Us.bindL l id inc e n = l := by unfold Us.bindL; rw [hE]; rfl
    rw [hE, hL]
    exact ⟨rfl, HR, HC⟩
    rintro hst
    refine Fw.nil ?_
    refine hK6 _ _ ?_
    refine Fw.condF rfl ?_
    refine Fw.skip ?_
    refine hK5 _ _ (Fw.FC.sub (f' := [(11, _), (2, _), (3, _), (4, _)]) (.cons rfl (.cons rfl (.cons rfl (.cons rfl .nil)))) ?_)
    refine Fw.seq fun _ hK9 => ?_
    refine Fw.region ?_
    refine Fw.s (Fw.val_move rfl) rfl ?_
    refine Fw.s (Fw.val_move rfl) rfl ?_
    refine Fw.s (Fw.val_move rfl) rfl ?_
    refine Fw.s (Fw.val_nil rfl) rfl ?_
    refine Fw.s (Fw.val_fieldAddr fl83_0 rfl rfl) rfl ?_
    refine Fw.s (Fw.val_fieldAddr fl69_3 rfl rfl) rfl ?_
    refine Fw.storeI Us.U.len sz3 rfl rfl HAt rfl rfl rfl ?_
    intro w1 N_ hc
    replace HP := HP.chg hc (by omega)
    replace HR := trivial
    replace HC := HC.trans hc (fun k hk_ e => by first | exact e | (left; exact e) | (right; exact e) | (exfalso; omega))
    clear hc
    clear HAt
    have HAt := N_
    clear N_
    refine Fw.s (Fw.val_nil rfl) rfl ?_
    refine Fw.s (Fw.val_fieldAddr fl83_0 rfl rfl) rfl ?_
    refine Fw.s (Fw.val_fieldAddr fl69_7 rfl rfl) rfl ?_
    refine Fw.storeI Us.U.len sz2 rfl rfl HAt rfl rfl rfl ?_
    intro w2 N_ hc
    replace HP := HP.chg hc (by omega)
    replace HR := trivial
    replace HC := HC.trans hc (fun k hk_ e => by first | exact e | (left; exact e) | (right; exact e) | (exfalso; omega))
    clear hc
    clear HAt
    have HAt := N_
    clear N_
    refine Fw.nil ?_
    refine hK9 _ _ (Fw.FC.sub (f' := [(11, _), (2, _), (3, _), (4, _)]) (.cons rfl (.cons rfl (.cons rfl (.cons rfl .nil)))) ?_)
    refine Fw.seq fun _ hK10 => ?_
    refine Fw.region ?_
    refine Fw.s (Fw.val_move rfl) rfl ?_
    refine Fw.s (Fw.val_move rfl) rfl ?_
    refine Fw.s (Fw.val_move rfl) rfl ?_
    refine Fw.s (Fw.val_move rfl) rfl ?_
    refine Fw.call cf35 rfl rfl (issue_any _ B g c i l ({ l[i] with state := 2, inc := inc }) (e) (1) (inc) (n) HAt) ?_
    rintro e_ w3 ⟨rfl, HAt_, hc⟩
    refine ⟨_, rfl, ?_⟩
    replace HP := HP.chg hc (by omega)
    replace HR := trivial
    replace HC := HC.trans hc (fun k hk_ e => by first | exact e | (left; exact e) | (right; exact e) | (exfalso; omega))
    clear hc
    clear HAt
    have HAt := HAt_
    clear HAt_
    refine Fw.nil ?_
    refine hK10 _ _ (Fw.FC.sub (f' := []) .nil ?_)
    refine Fw.seq fun _ hK11 => ?_
    refine Fw.region ?_
    refine Fw.s (Fw.val_assign rfl) rfl ?_
    refine Fw.nil ?_
    refine hK11 _ _ ?_
    refine Fw.ret ?_
    refine Fw.ret_ [.tmp 10] [_] Try.results9 (.tmp rfl .nil) ?_
    have hE : Us.bindE l id inc e n = 0 := by simp [Us.bindE, hth, hg, h1, h2, h3, hst]
    have hL : Us.bindL l id inc e n = l.set i (Us.issue { l[i] with state := 2, inc := inc } e 1 inc n) := by unfold Us.bindL; rw [if_pos hE, hg]; unfold Us.put; rw [hid, Int.toNat_natCast]
    rw [hE, hL]
    exact ⟨rfl, RegAt.of _ hBp hBg HP HAt, HC⟩
    rintro h3
    refine Fw.gT (d := 28) rfl rfl ?_
    refine Fw.s (Fw.val_not rfl) rfl ?_
    refine Fw.s (Fw.val_pickF rfl rfl) rfl ?_
    refine Fw.nil ?_
    refine hK4 _ _ (Fw.FC.sub (f' := [(32, _), (11, _), (2, _), (3, _), (4, _)]) (.cons rfl (.cons rfl (.cons rfl (.cons rfl (.cons rfl .nil))))) ?_)
    refine Fw.condT rfl ?_
    refine Fw.seq fun _ hK12 => ?_
    refine Fw.region ?_
    refine Fw.s (Fw.val_assign rfl) rfl ?_
    refine Fw.nil ?_
    refine hK12 _ _ ?_
    refine Fw.ret ?_
    refine Fw.X_ret ?_
    refine Fw.ret_ [.tmp 10] [_] Try.results9 (.tmp rfl .nil) ?_
    have hE : Us.bindE l id inc e n = 1 := by simp [Us.bindE, hth, hg, h1, h2, h3]
    have hL : Us.bindL l id inc e n = l := by unfold Us.bindL; rw [hE]; rfl
    rw [hE, hL]
    exact ⟨rfl, HR, HC⟩
    rintro h2
    refine Fw.gT (d := 22) rfl rfl ?_
    refine Fw.s (Fw.val_not rfl) rfl ?_
    refine Fw.s (Fw.val_pickF rfl rfl) rfl ?_
    refine Fw.s (Fw.val_move rfl) rfl ?_
    refine Fw.gF (d := 28) rfl rfl rfl rfl ?_
    refine Fw.gF (d := 28) rfl rfl rfl rfl ?_
    refine Fw.gF (d := 28) rfl rfl rfl rfl ?_
    refine Fw.s (Fw.val_pickT rfl rfl) rfl ?_
    refine Fw.nil ?_
    refine hK4 _ _ (Fw.FC.sub (f' := [(32, _), (11, _), (2, _), (3, _), (4, _)]) (.cons rfl (.cons rfl (.cons rfl (.cons rfl (.cons rfl .nil))))) ?_)
    refine Fw.condT rfl ?_
    refine Fw.seq fun _ hK13 => ?_
    refine Fw.region ?_
    refine Fw.s (Fw.val_assign rfl) rfl ?_
    refine Fw.nil ?_
    refine hK13 _ _ ?_
    refine Fw.ret ?_
    refine Fw.X_ret ?_
    refine Fw.ret_ [.tmp 10] [_] Try.results9 (.tmp rfl .nil) ?_
    have hE : Us.bindE l id inc e n = 1 := by simp [Us.bindE, hth, hg, h1, h2]
    have hL : Us.bindL l id inc e n = l := by unfold Us.bindL; rw [hE]; rfl
    rw [hE, hL]
    exact ⟨rfl, HR, HC⟩
    rintro h1
    refine Fw.gT (d := 17) rfl rfl ?_
    refine Fw.s (Fw.val_not rfl) rfl ?_
    refine Fw.s (Fw.val_pickF rfl rfl) rfl ?_
    refine Fw.s (Fw.val_move rfl) rfl ?_
    refine Fw.gF (d := 22) rfl rfl rfl rfl ?_
    refine Fw.gF (d := 22) rfl rfl rfl rfl ?_
    refine Fw.gF (d := 22) rfl rfl rfl rfl ?_
    refine Fw.gF (d := 22) rfl rfl rfl rfl ?_
    refine Fw.s (Fw.val_pickT rfl rfl) rfl ?_
    refine Fw.s (Fw.val_move rfl) rfl ?_
    refine Fw.gF (d := 28) rfl rfl rfl rfl ?_
    refine Fw.gF (d := 28) rfl rfl rfl rfl ?_
    refine Fw.gF (d := 28) rfl rfl rfl rfl ?_
    refine Fw.s (Fw.val_pickT rfl rfl) rfl ?_
    refine Fw.nil ?_
    refine hK4 _ _ (Fw.FC.sub (f' := [(32, _), (11, _), (2, _), (3, _), (4, _)]) (.cons rfl (.cons rfl (.cons rfl (.cons rfl (.cons rfl .nil))))) ?_)
    refine Fw.condT rfl ?_
    refine Fw.seq fun _ hK14 => ?_
    refine Fw.region ?_
    refine Fw.s (Fw.val_assign rfl) rfl ?_
    refine Fw.nil ?_
    refine hK14 _ _ ?_
    refine Fw.ret ?_
    refine Fw.X_ret ?_
    refine Fw.ret_ [.tmp 10] [_] Try.results9 (.tmp rfl .nil) ?_
    have hE : Us.bindE l id inc e n = 1 := by simp [Us.bindE, hth, hg, h1]
    have hL : Us.bindL l id inc e n = l := by unfold Us.bindL; rw [hE]; rfl
    rw [hE, hL]
    exact ⟨rfl, HR, HC⟩
  | false =>
    have HR := h
    have hlt := h.lt
    refine Fw.calls Try.func9 rfl Try.ntmps9 rfl ?_
    have HC := Chg.refl (· = g) w
    refine Fw.seq fun _ hK1 => ?_
    refine Fw.region ?_
    refine Fw.s (Fw.val_assign rfl) rfl ?_
    refine Fw.nil ?_
    refine hK1 _ _ ?_
    refine Fw.seq fun _ hK2 => ?_
    refine Fw.region ?_
    refine Fw.s (Fw.val_move rfl) rfl ?_
    refine Fw.s (Fw.val_move rfl) rfl ?_
    refine Fw.call cf32 rfl rfl (find_out _ B p g c l _ hth HR) ?_
    rintro e_ _ ⟨rfl, rfl⟩
    refine ⟨_, rfl, ?_⟩
    refine Fw.s (Fw.val_assign rfl) rfl ?_
    refine Fw.nil ?_
    refine hK2 _ _ ?_
    refine Fw.seq fun _ hK3 => ?_
    refine Fw.seq fun _ hK4 => ?_
    refine Fw.region ?_
    refine Fw.s (Fw.val_move rfl) rfl ?_
    refine Fw.s (Fw.val_bin rfl rfl (Fw.b_nilP Try.underlying90)) rfl ?_
    refine Fw.s (Fw.val_move rfl) rfl ?_
    refine Fw.gF (d := 17) rfl rfl rfl rfl ?_
    refine Fw.gF (d := 17) rfl rfl rfl rfl ?_
    refine Fw.gF (d := 17) rfl rfl rfl rfl ?_
    refine Fw.s (Fw.val_pickT rfl rfl) rfl ?_
    refine Fw.s (Fw.val_move rfl) rfl ?_
    refine Fw.gF (d := 22) rfl rfl rfl rfl ?_
    refine Fw.gF (d := 22) rfl rfl rfl rfl ?_
    refine Fw.gF (d := 22) rfl rfl rfl rfl ?_
    refine Fw.gF (d := 22) rfl rfl rfl rfl ?_
    refine Fw.s (Fw.val_pickT rfl rfl) rfl ?_
    refine Fw.s (Fw.val_move rfl) rfl ?_
    refine Fw.gF (d := 28) rfl rfl rfl rfl ?_
    refine Fw.gF (d := 28) rfl rfl rfl rfl ?_
    refine Fw.gF (d := 28) rfl rfl rfl rfl ?_
    refine Fw.s (Fw.val_pickT rfl rfl) rfl ?_
    refine Fw.nil ?_
    refine hK4 _ _ (Fw.FC.sub (f' := [(32, _), (11, _), (2, _), (3, _), (4, _)]) (.cons rfl (.cons rfl (.cons rfl (.cons rfl (.cons rfl .nil))))) ?_)
    refine Fw.condT rfl ?_
    refine Fw.seq fun _ hK5 => ?_
    refine Fw.region ?_
    refine Fw.s (Fw.val_assign rfl) rfl ?_
    refine Fw.nil ?_
    refine hK5 _ _ ?_
    refine Fw.ret ?_
    refine Fw.X_ret ?_
    refine Fw.ret_ [.tmp 10] [_] Try.results9 (.tmp rfl .nil) ?_
    have hE : Us.bindE l id inc e n = 1 := by simp [Us.bindE, hth]
    have hL : Us.bindL l id inc e n = l := by unfold Us.bindL; rw [hE]; rfl
    rw [hE, hL]
    exact ⟨rfl, HR, HC⟩

set_option maxRecDepth 100000 in
set_option maxHeartbeats 1000000 in
theorem move_any (w : World) (B p g c : Nat) (l : List Us.U) (id n e : Int) (h : RegAt w B p g c l) : Calls Try.prog 11 #[.pointer (some ⟨p, 0, none⟩), .int .i64 id, .int .i64 n, .int .i64 e] w fun e_ w' => e_ = .returned (.int .i64 (Us.moveE l id n e)) ∧ RegAt w' B p g c (Us.moveL l id n e) ∧ Chg (· = g) w w' := by
  cases hth : Us.there l id with
  | true =>
    obtain ⟨i, hid, hi⟩ : ∃ i : Nat, id = i ∧ i < l.length := by have := of_decide_eq_true hth; exact ⟨(id).toNat, by omega, by omega⟩
    have hg := Us.get_at hid hi
    have HAt := h.at hi
    have HR := h
    have hlt := h.lt
    obtain ⟨hBp, hBg, HP, HO⟩ := h
    refine Fw.calls Try.func11 rfl Try.ntmps11 rfl ?_
    have HC := Chg.refl (· = g) w
    refine Fw.seq fun _ hK1 => ?_
    refine Fw.region ?_
    refine Fw.s (Fw.val_assign rfl) rfl ?_
    refine Fw.nil ?_
    refine hK1 _ _ ?_
    refine Fw.seq fun _ hK2 => ?_
    refine Fw.region ?_
    refine Fw.s (Fw.val_move rfl) rfl ?_
    refine Fw.s (Fw.val_move rfl) rfl ?_
    refine Fw.call cf32 rfl rfl (find_in _ B p g c l _ i hid hi HR) ?_
    rintro e_ _ ⟨rfl, rfl⟩
    refine ⟨_, rfl, ?_⟩
    refine Fw.s (Fw.val_assign rfl) rfl ?_
    refine Fw.nil ?_
    refine hK2 _ _ ?_
    refine Fw.seq fun _ hK3 => ?_
    refine Fw.seq fun _ hK4 => ?_
    refine Fw.region ?_
    refine Fw.s (Fw.val_move rfl) rfl ?_
    refine Fw.s (Fw.val_bin rfl rfl (Fw.b_nilP Try.underlying90)) rfl ?_
    refine Fw.s (Fw.val_move rfl) rfl ?_
    refine Fw.gT (d := 15) rfl rfl ?_
    refine Fw.s (Fw.val_move rfl) rfl ?_
    refine Fw.gT (d := 15) rfl rfl ?_
    refine Fw.call cf28 rfl rfl (validNode_any _ _) ?_
    rintro e_ _ ⟨rfl, rfl⟩
    refine ⟨_, rfl, ?_⟩
    refine Fw.b2 ?_ ?_
    rintro h1
    refine Fw.gT (d := 15) rfl rfl ?_
    refine Fw.s (Fw.val_not rfl) rfl ?_
    refine Fw.s (Fw.val_pickF rfl rfl) rfl ?_
    refine Fw.s (Fw.val_move rfl) rfl ?_
    refine Fw.gT (d := 20) rfl rfl ?_
    refine Fw.s (Fw.val_move rfl) rfl ?_
    refine Fw.gT (d := 20) rfl rfl ?_
    refine Fw.s (Fw.val_move rfl) rfl ?_
    refine Fw.gT (d := 20) rfl rfl ?_
    refine Fw.call cf34 rfl rfl (validEpoch_any _ g (i * 15) l[i] _ (HAt.rd Us.U.len)) ?_
    rintro e_ _ ⟨rfl, rfl⟩
    refine ⟨_, rfl, ?_⟩
    refine Fw.b2 ?_ ?_
    rintro h2
    refine Fw.gT (d := 20) rfl rfl ?_
    refine Fw.s (Fw.val_not rfl) rfl ?_
    refine Fw.s (Fw.val_pickF rfl rfl) rfl ?_
    refine Fw.nil ?_
    refine hK4 _ _ (Fw.FC.sub (f' := [(25, _), (9, _), (2, _), (3, _)]) (.cons rfl (.cons rfl (.cons rfl (.cons rfl .nil)))) ?_)
    refine Fw.condF rfl ?_
    refine Fw.skip ?_
    refine hK3 _ _ ?_
    refine Fw.seq fun _ hK5 => ?_
    refine Fw.seq fun _ hK6 => ?_
    refine Fw.region ?_
    refine Fw.s (Fw.val_move rfl) rfl ?_
    refine Fw.s (Fw.val_nil rfl) rfl ?_
    refine Fw.s (Fw.val_fieldAddr fl83_0 rfl rfl) rfl ?_
    refine Fw.s (Fw.val_fieldAddr fl69_3 rfl rfl) rfl ?_
    refine Fw.ld sc3 rfl (HAt.cell Us.U.len 3 rfl) rfl ?_
    refine Fw.s2 (Fw.val_bin rfl rfl Fw.b_neq) rfl ?_ ?_
    rintro hst
    refine Fw.nil ?_
    refine hK6 _ _ ?_
    refine Fw.condT rfl ?_
    refine Fw.seq fun _ hK8 => ?_
    refine Fw.region ?_
    refine Fw.s (Fw.val_assign rfl) rfl ?_
    refine Fw.nil ?_
    refine hK8 _ _ (Fw.FC.sub (f' := [(8, _)]) (.cons rfl .nil) ?_)
    refine Fw.ret ?_
    refine Fw.X_ret ?_
    refine Fw.ret_ [.tmp 8] [_] Try.results11 (.tmp rfl .nil) ?_
    have hE : Us.moveE l id n e = 8 := by simp [Us.moveE, hth, hg, h1, h2, hst]
    have hL : Us.moveL l id n e = l := by unfold Us.moveL; rw [hE]; rfl
    rw [hE, hL]
    exact ⟨rfl, HR, HC⟩
    rintro hst
    refine Fw.nil ?_
    refine hK6 _ _ ?_
    refine Fw.condF rfl ?_
    refine Fw.skip ?_
    refine hK5 _ _ (Fw.FC.sub (f' := [(9, _), (2, _), (3, _)]) (.cons rfl (.cons rfl (.cons rfl .nil))) ?_)
    refine Fw.seq fun _ hK9 => ?_
    refine Fw.region ?_
    refine Fw.s (Fw.val_move rfl) rfl ?_
    refine Fw.s (Fw.val_nil rfl) rfl ?_
    refine Fw.s (Fw.val_fieldAddr fl83_0 rfl rfl) rfl ?_
    refine Fw.s (Fw.val_fieldAddr fl69_3 rfl rfl) rfl ?_
    refine Fw.storeI Us.U.len sz3 rfl rfl HAt rfl rfl rfl ?_
    intro w1 N_ hc
    replace HP := HP.chg hc (by omega)
    replace HR := trivial
    replace HC := HC.trans hc (fun k hk_ e => by first | exact e | (left; exact e) | (right; exact e) | (exfalso; omega))
    clear hc
    clear HAt
    have HAt := N_
    clear N_
    refine Fw.nil ?_
    refine hK9 _ _ ?_
    refine Fw.seq fun _ hK10 => ?_
    refine Fw.region ?_
    refine Fw.s (Fw.val_move rfl) rfl ?_
    refine Fw.s (Fw.val_move rfl) rfl ?_
    refine Fw.s (Fw.val_move rfl) rfl ?_
    refine Fw.call cf35 rfl rfl (issue_any _ B g c i l ({ l[i] with state := 2 }) (e) (3) (0) (n) HAt) ?_
    rintro e_ w2 ⟨rfl, HAt_, hc⟩
    refine ⟨_, rfl, ?_⟩
    replace HP := HP.chg hc (by omega)
    replace HR := trivial
    replace HC := HC.trans hc (fun k hk_ e => by first | exact e | (left; exact e) | (right; exact e) | (exfalso; omega))
    clear hc
    clear HAt
    have HAt := HAt_
    clear HAt_
    refine Fw.nil ?_
    refine hK10 _ _ (Fw.FC.sub (f' := []) .nil ?_)
    refine Fw.seq fun _ hK11 => ?_
    refine Fw.region ?_
    refine Fw.s (Fw.val_assign rfl) rfl ?_
    refine Fw.nil ?_
    refine hK11 _ _ ?_
    refine Fw.ret ?_
    refine Fw.ret_ [.tmp 8] [_] Try.results11 (.tmp rfl .nil) ?_
    have hE : Us.moveE l id n e = 0 := by simp [Us.moveE, hth, hg, h1, h2, hst]
    have hL : Us.moveL l id n e = l.set i (Us.issue { l[i] with state := 2 } e 3 0 n) := by unfold Us.moveL; rw [if_pos hE, hg]; unfold Us.put; rw [hid, Int.toNat_natCast]
    rw [hE, hL]
    exact ⟨rfl, RegAt.of _ hBp hBg HP HAt, HC⟩
    rintro h2
    refine Fw.gT (d := 20) rfl rfl ?_
    refine Fw.s (Fw.val_not rfl) rfl ?_
    refine Fw.s (Fw.val_pickF rfl rfl) rfl ?_
    refine Fw.nil ?_
    refine hK4 _ _ (Fw.FC.sub (f' := [(25, _), (9, _), (2, _), (3, _)]) (.cons rfl (.cons rfl (.cons rfl (.cons rfl .nil)))) ?_)
    refine Fw.condT rfl ?_
    refine Fw.seq fun _ hK12 => ?_
    refine Fw.region ?_
    refine Fw.s (Fw.val_assign rfl) rfl ?_
    refine Fw.nil ?_
    refine hK12 _ _ ?_
    refine Fw.ret ?_
    refine Fw.X_ret ?_
    refine Fw.ret_ [.tmp 8] [_] Try.results11 (.tmp rfl .nil) ?_
    have hE : Us.moveE l id n e = 1 := by simp [Us.moveE, hth, hg, h1, h2]
    have hL : Us.moveL l id n e = l := by unfold Us.moveL; rw [hE]; rfl
    rw [hE, hL]
    exact ⟨rfl, HR, HC⟩
    rintro h1
    refine Fw.gT (d := 15) rfl rfl ?_
    refine Fw.s (Fw.val_not rfl) rfl ?_
    refine Fw.s (Fw.val_pickF rfl rfl) rfl ?_
    refine Fw.s (Fw.val_move rfl) rfl ?_
    refine Fw.gF (d := 20) rfl rfl rfl rfl ?_
    refine Fw.gF (d := 20) rfl rfl rfl rfl ?_
    refine Fw.gF (d := 20) rfl rfl rfl rfl ?_
    refine Fw.gF (d := 20) rfl rfl rfl rfl ?_
    refine Fw.s (Fw.val_pickT rfl rfl) rfl ?_
    refine Fw.nil ?_
    refine hK4 _ _ (Fw.FC.sub (f' := [(25, _), (9, _), (2, _), (3, _)]) (.cons rfl (.cons rfl (.cons rfl (.cons rfl .nil)))) ?_)
    refine Fw.condT rfl ?_
    refine Fw.seq fun _ hK13 => ?_
    refine Fw.region ?_
    refine Fw.s (Fw.val_assign rfl) rfl ?_
    refine Fw.nil ?_
    refine hK13 _ _ ?_
    refine Fw.ret ?_
    refine Fw.X_ret ?_
    refine Fw.ret_ [.tmp 8] [_] Try.results11 (.tmp rfl .nil) ?_
    have hE : Us.moveE l id n e = 1 := by simp [Us.moveE, hth, hg, h1]
    have hL : Us.moveL l id n e = l := by unfold Us.moveL; rw [hE]; rfl
    rw [hE, hL]
    exact ⟨rfl, HR, HC⟩
  | false =>
    have HR := h
    have hlt := h.lt
    refine Fw.calls Try.func11 rfl Try.ntmps11 rfl ?_
    have HC := Chg.refl (· = g) w
    refine Fw.seq fun _ hK1 => ?_
    refine Fw.region ?_
    refine Fw.s (Fw.val_assign rfl) rfl ?_
    refine Fw.nil ?_
    refine hK1 _ _ ?_
    refine Fw.seq fun _ hK2 => ?_
    refine Fw.region ?_
    refine Fw.s (Fw.val_move rfl) rfl ?_
    refine Fw.s (Fw.val_move rfl) rfl ?_
    refine Fw.call cf32 rfl rfl (find_out _ B p g c l _ hth HR) ?_
    rintro e_ _ ⟨rfl, rfl⟩
    refine ⟨_, rfl, ?_⟩
    refine Fw.s (Fw.val_assign rfl) rfl ?_
    refine Fw.nil ?_
    refine hK2 _ _ ?_
    refine Fw.seq fun _ hK3 => ?_
    refine Fw.seq fun _ hK4 => ?_
    refine Fw.region ?_
    refine Fw.s (Fw.val_move rfl) rfl ?_
    refine Fw.s (Fw.val_bin rfl rfl (Fw.b_nilP Try.underlying90)) rfl ?_
    refine Fw.s (Fw.val_move rfl) rfl ?_
    refine Fw.gF (d := 15) rfl rfl rfl rfl ?_
    refine Fw.gF (d := 15) rfl rfl rfl rfl ?_
    refine Fw.gF (d := 15) rfl rfl rfl rfl ?_
    refine Fw.s (Fw.val_pickT rfl rfl) rfl ?_
    refine Fw.s (Fw.val_move rfl) rfl ?_
    refine Fw.gF (d := 20) rfl rfl rfl rfl ?_
    refine Fw.gF (d := 20) rfl rfl rfl rfl ?_
    refine Fw.gF (d := 20) rfl rfl rfl rfl ?_
    refine Fw.gF (d := 20) rfl rfl rfl rfl ?_
    refine Fw.s (Fw.val_pickT rfl rfl) rfl ?_
    refine Fw.nil ?_
    refine hK4 _ _ (Fw.FC.sub (f' := [(25, _), (9, _), (2, _), (3, _)]) (.cons rfl (.cons rfl (.cons rfl (.cons rfl .nil)))) ?_)
    refine Fw.condT rfl ?_
    refine Fw.seq fun _ hK5 => ?_
    refine Fw.region ?_
    refine Fw.s (Fw.val_assign rfl) rfl ?_
    refine Fw.nil ?_
    refine hK5 _ _ ?_
    refine Fw.ret ?_
    refine Fw.X_ret ?_
    refine Fw.ret_ [.tmp 8] [_] Try.results11 (.tmp rfl .nil) ?_
    have hE : Us.moveE l id n e = 1 := by simp [Us.moveE, hth]
    have hL : Us.moveL l id n e = l := by unfold Us.moveL; rw [hE]; rfl
    rw [hE, hL]
    exact ⟨rfl, HR, HC⟩

set_option maxRecDepth 100000 in
set_option maxHeartbeats 1000000 in
theorem standDown_any (w : World) (B p g c : Nat) (l : List Us.U) (id e : Int) (h : RegAt w B p g c l) : Calls Try.prog 10 #[.pointer (some ⟨p, 0, none⟩), .int .i64 id, .int .i64 e] w fun e_ w' => e_ = .returned (.int .i64 (Us.standE l id e)) ∧ RegAt w' B p g c (Us.standL l id e) ∧ Chg (· = g) w w' := by
  cases hth : Us.there l id with
  | true =>
    obtain ⟨i, hid, hi⟩ : ∃ i : Nat, id = i ∧ i < l.length := by have := of_decide_eq_true hth; exact ⟨(id).toNat, by omega, by omega⟩
    have hg := Us.get_at hid hi
    have HAt := h.at hi
    have HR := h
    have hlt := h.lt
    obtain ⟨hBp, hBg, HP, HO⟩ := h
    refine Fw.calls Try.func10 rfl Try.ntmps10 rfl ?_
    have HC := Chg.refl (· = g) w
    refine Fw.seq fun _ hK1 => ?_
    refine Fw.region ?_
    refine Fw.s (Fw.val_assign rfl) rfl ?_
    refine Fw.nil ?_
    refine hK1 _ _ ?_
    refine Fw.seq fun _ hK2 => ?_
    refine Fw.region ?_
    refine Fw.s (Fw.val_move rfl) rfl ?_
    refine Fw.s (Fw.val_move rfl) rfl ?_
    refine Fw.call cf32 rfl rfl (find_in _ B p g c l _ i hid hi HR) ?_
    rintro e_ _ ⟨rfl, rfl⟩
    refine ⟨_, rfl, ?_⟩
    refine Fw.s (Fw.val_assign rfl) rfl ?_
    refine Fw.nil ?_
    refine hK2 _ _ ?_
    refine Fw.seq fun _ hK3 => ?_
    refine Fw.seq fun _ hK4 => ?_
    refine Fw.region ?_
    refine Fw.s (Fw.val_move rfl) rfl ?_
    refine Fw.s (Fw.val_bin rfl rfl (Fw.b_nilP Try.underlying90)) rfl ?_
    refine Fw.s (Fw.val_move rfl) rfl ?_
    refine Fw.gT (d := 13) rfl rfl ?_
    refine Fw.s (Fw.val_move rfl) rfl ?_
    refine Fw.gT (d := 13) rfl rfl ?_
    refine Fw.s (Fw.val_move rfl) rfl ?_
    refine Fw.gT (d := 13) rfl rfl ?_
    refine Fw.call cf34 rfl rfl (validEpoch_any _ g (i * 15) l[i] _ (HAt.rd Us.U.len)) ?_
    rintro e_ _ ⟨rfl, rfl⟩
    refine ⟨_, rfl, ?_⟩
    refine Fw.b2 ?_ ?_
    rintro h1
    refine Fw.gT (d := 13) rfl rfl ?_
    refine Fw.s (Fw.val_not rfl) rfl ?_
    refine Fw.s (Fw.val_pickF rfl rfl) rfl ?_
    refine Fw.nil ?_
    refine hK4 _ _ (Fw.FC.sub (f' := [(18, _), (7, _), (2, _)]) (.cons rfl (.cons rfl (.cons rfl .nil))) ?_)
    refine Fw.condF rfl ?_
    refine Fw.skip ?_
    refine hK3 _ _ ?_
    refine Fw.seq fun _ hK5 => ?_
    refine Fw.region ?_
    refine Fw.s (Fw.val_move rfl) rfl ?_
    refine Fw.call cf36 rfl rfl (release_any _ B g c i l (l[i]) HAt) ?_
    rintro e_ w1 ⟨rfl, HAt_, hc⟩
    refine ⟨_, rfl, ?_⟩
    replace HP := HP.chg hc (by omega)
    replace HR := trivial
    replace HC := HC.trans hc (fun k hk_ e => by first | exact e | (left; exact e) | (right; exact e) | (exfalso; omega))
    clear hc
    clear HAt
    have HAt := HAt_
    clear HAt_
    refine Fw.nil ?_
    refine hK5 _ _ ?_
    refine Fw.seq fun _ hK6 => ?_
    refine Fw.region ?_
    refine Fw.s (Fw.val_move rfl) rfl ?_
    refine Fw.s (Fw.val_move rfl) rfl ?_
    refine Fw.call cf35 rfl rfl (issue_any _ B g c i l ({ l[i] with inc := 0 }) (e) (2) (0) (0) HAt) ?_
    rintro e_ w2 ⟨rfl, HAt_, hc⟩
    refine ⟨_, rfl, ?_⟩
    replace HP := HP.chg hc (by omega)
    replace HR := trivial
    replace HC := HC.trans hc (fun k hk_ e => by first | exact e | (left; exact e) | (right; exact e) | (exfalso; omega))
    clear hc
    clear HAt
    have HAt := HAt_
    clear HAt_
    refine Fw.nil ?_
    refine hK6 _ _ (Fw.FC.sub (f' := [(7, _)]) (.cons rfl .nil) ?_)
    refine Fw.seq fun _ hK7 => ?_
    refine Fw.seq fun _ hK8 => ?_
    refine Fw.region ?_
    refine Fw.s (Fw.val_move rfl) rfl ?_
    refine Fw.s (Fw.val_nil rfl) rfl ?_
    refine Fw.s (Fw.val_fieldAddr fl83_0 rfl rfl) rfl ?_
    refine Fw.s (Fw.val_fieldAddr fl69_3 rfl rfl) rfl ?_
    refine Fw.ld sc3 rfl (HAt.cell Us.U.len 3 rfl) rfl ?_
    refine Fw.s2 (Fw.val_bin rfl rfl Fw.b_neq) rfl ?_ ?_
    rintro hs6
    refine Fw.s (Fw.val_move rfl) rfl ?_
    refine Fw.gT (d := 30) rfl rfl ?_
    refine Fw.s (Fw.val_move rfl) rfl ?_
    refine Fw.gT (d := 30) rfl rfl ?_
    refine Fw.s (Fw.val_nil rfl) rfl ?_
    refine Fw.gT (d := 30) rfl rfl ?_
    refine Fw.s (Fw.val_fieldAddr fl83_0 rfl rfl) rfl ?_
    refine Fw.gT (d := 30) rfl rfl ?_
    refine Fw.s (Fw.val_fieldAddr fl69_3 rfl rfl) rfl ?_
    refine Fw.gT (d := 30) rfl rfl ?_
    refine Fw.ld sc3 rfl (HAt.cell Us.U.len 3 rfl) rfl ?_
    refine Fw.gT (d := 30) rfl rfl ?_
    refine Fw.s2 (Fw.val_bin rfl rfl Fw.b_neq) rfl ?_ ?_
    rintro hs7
    refine Fw.s (Fw.val_pickT rfl rfl) rfl ?_
    refine Fw.nil ?_
    refine hK8 _ _ (Fw.FC.sub (f' := [(37, _), (7, _)]) (.cons rfl (.cons rfl .nil)) ?_)
    refine Fw.condT rfl ?_
    refine Fw.region ?_
    refine Fw.s (Fw.val_move rfl) rfl ?_
    refine Fw.s (Fw.val_nil rfl) rfl ?_
    refine Fw.s (Fw.val_fieldAddr fl83_0 rfl rfl) rfl ?_
    refine Fw.s (Fw.val_fieldAddr fl69_3 rfl rfl) rfl ?_
    refine Fw.storeI Us.U.len sz3 rfl rfl HAt rfl rfl rfl ?_
    intro w3 N_ hc
    replace HP := HP.chg hc (by omega)
    replace HR := trivial
    replace HC := HC.trans hc (fun k hk_ e => by first | exact e | (left; exact e) | (right; exact e) | (exfalso; omega))
    clear hc
    clear HAt
    have HAt := N_
    clear N_
    refine Fw.nil ?_
    refine hK7 _ _ ?_
    refine Fw.seq fun _ hK11 => ?_
    refine Fw.region ?_
    refine Fw.s (Fw.val_assign rfl) rfl ?_
    refine Fw.nil ?_
    refine hK11 _ _ ?_
    refine Fw.ret ?_
    refine Fw.ret_ [.tmp 6] [_] Try.results10 (.tmp rfl .nil) ?_
    have hE : Us.standE l id e = 0 := by simp [Us.standE, hth, hg, h1]
    have hL : Us.standL l id e = l.set i (Us.issue { l[i] with state := 2, inc := 0 } e 2 0 0) := by
      unfold Us.standL; rw [if_pos hE, hg]; unfold Us.put Us.standU; rw [hid, Int.toNat_natCast]
      congr 3
      exact if_pos ⟨hs6, hs7⟩
    rw [hE, hL]
    exact ⟨rfl, RegAt.of _ hBp hBg HP HAt, HC⟩
    rintro hs7
    refine Fw.s (Fw.val_pickT rfl rfl) rfl ?_
    refine Fw.nil ?_
    refine hK8 _ _ (Fw.FC.sub (f' := [(37, _), (7, _)]) (.cons rfl (.cons rfl .nil)) ?_)
    refine Fw.condF rfl ?_
    refine Fw.skip ?_
    refine hK7 _ _ ?_
    refine Fw.seq fun _ hK12 => ?_
    refine Fw.region ?_
    refine Fw.s (Fw.val_assign rfl) rfl ?_
    refine Fw.nil ?_
    refine hK12 _ _ ?_
    refine Fw.ret ?_
    refine Fw.ret_ [.tmp 6] [_] Try.results10 (.tmp rfl .nil) ?_
    have hE : Us.standE l id e = 0 := by simp [Us.standE, hth, hg, h1]
    have hL : Us.standL l id e = l.set i (Us.issue { l[i] with state := l[i].state, inc := 0 } e 2 0 0) := by
      unfold Us.standL; rw [if_pos hE, hg]; unfold Us.put Us.standU; rw [hid, Int.toNat_natCast]
      congr 3
      exact if_neg (fun hh => by first | exact hs7 hh.2 | exact hs6 hh.1)
    rw [hE, hL]
    exact ⟨rfl, RegAt.of _ hBp hBg HP HAt, HC⟩
    rintro hs6
    refine Fw.s (Fw.val_move rfl) rfl ?_
    refine Fw.gF (d := 30) rfl rfl rfl rfl ?_
    refine Fw.gF (d := 30) rfl rfl rfl rfl ?_
    refine Fw.gF (d := 30) rfl rfl rfl rfl ?_
    refine Fw.gF (d := 30) rfl rfl rfl rfl ?_
    refine Fw.gF (d := 30) rfl rfl rfl rfl ?_
    refine Fw.gF (d := 30) rfl rfl rfl rfl ?_
    refine Fw.s (Fw.val_pickF rfl rfl) rfl ?_
    refine Fw.nil ?_
    refine hK8 _ _ (Fw.FC.sub (f' := [(37, _), (7, _)]) (.cons rfl (.cons rfl .nil)) ?_)
    refine Fw.condF rfl ?_
    refine Fw.skip ?_
    refine hK7 _ _ ?_
    refine Fw.seq fun _ hK13 => ?_
    refine Fw.region ?_
    refine Fw.s (Fw.val_assign rfl) rfl ?_
    refine Fw.nil ?_
    refine hK13 _ _ ?_
    refine Fw.ret ?_
    refine Fw.ret_ [.tmp 6] [_] Try.results10 (.tmp rfl .nil) ?_
    have hE : Us.standE l id e = 0 := by simp [Us.standE, hth, hg, h1]
    have hL : Us.standL l id e = l.set i (Us.issue { l[i] with state := l[i].state, inc := 0 } e 2 0 0) := by
      unfold Us.standL; rw [if_pos hE, hg]; unfold Us.put Us.standU; rw [hid, Int.toNat_natCast]
      congr 3
      exact if_neg (fun hh => by first | exact hs7 hh.2 | exact hs6 hh.1)
    rw [hE, hL]
    exact ⟨rfl, RegAt.of _ hBp hBg HP HAt, HC⟩
    rintro h1
    refine Fw.gT (d := 13) rfl rfl ?_
    refine Fw.s (Fw.val_not rfl) rfl ?_
    refine Fw.s (Fw.val_pickF rfl rfl) rfl ?_
    refine Fw.nil ?_
    refine hK4 _ _ (Fw.FC.sub (f' := [(18, _), (7, _), (2, _)]) (.cons rfl (.cons rfl (.cons rfl .nil))) ?_)
    refine Fw.condT rfl ?_
    refine Fw.seq fun _ hK14 => ?_
    refine Fw.region ?_
    refine Fw.s (Fw.val_assign rfl) rfl ?_
    refine Fw.nil ?_
    refine hK14 _ _ ?_
    refine Fw.ret ?_
    refine Fw.X_ret ?_
    refine Fw.ret_ [.tmp 6] [_] Try.results10 (.tmp rfl .nil) ?_
    have hE : Us.standE l id e = 1 := by simp [Us.standE, hth, hg, h1]
    have hL : Us.standL l id e = l := by unfold Us.standL; rw [hE]; rfl
    rw [hE, hL]
    exact ⟨rfl, HR, HC⟩
  | false =>
    have HR := h
    have hlt := h.lt
    refine Fw.calls Try.func10 rfl Try.ntmps10 rfl ?_
    have HC := Chg.refl (· = g) w
    refine Fw.seq fun _ hK1 => ?_
    refine Fw.region ?_
    refine Fw.s (Fw.val_assign rfl) rfl ?_
    refine Fw.nil ?_
    refine hK1 _ _ ?_
    refine Fw.seq fun _ hK2 => ?_
    refine Fw.region ?_
    refine Fw.s (Fw.val_move rfl) rfl ?_
    refine Fw.s (Fw.val_move rfl) rfl ?_
    refine Fw.call cf32 rfl rfl (find_out _ B p g c l _ hth HR) ?_
    rintro e_ _ ⟨rfl, rfl⟩
    refine ⟨_, rfl, ?_⟩
    refine Fw.s (Fw.val_assign rfl) rfl ?_
    refine Fw.nil ?_
    refine hK2 _ _ ?_
    refine Fw.seq fun _ hK3 => ?_
    refine Fw.seq fun _ hK4 => ?_
    refine Fw.region ?_
    refine Fw.s (Fw.val_move rfl) rfl ?_
    refine Fw.s (Fw.val_bin rfl rfl (Fw.b_nilP Try.underlying90)) rfl ?_
    refine Fw.s (Fw.val_move rfl) rfl ?_
    refine Fw.gF (d := 13) rfl rfl rfl rfl ?_
    refine Fw.gF (d := 13) rfl rfl rfl rfl ?_
    refine Fw.gF (d := 13) rfl rfl rfl rfl ?_
    refine Fw.gF (d := 13) rfl rfl rfl rfl ?_
    refine Fw.s (Fw.val_pickT rfl rfl) rfl ?_
    refine Fw.nil ?_
    refine hK4 _ _ (Fw.FC.sub (f' := [(18, _), (7, _), (2, _)]) (.cons rfl (.cons rfl (.cons rfl .nil))) ?_)
    refine Fw.condT rfl ?_
    refine Fw.seq fun _ hK5 => ?_
    refine Fw.region ?_
    refine Fw.s (Fw.val_assign rfl) rfl ?_
    refine Fw.nil ?_
    refine hK5 _ _ ?_
    refine Fw.ret ?_
    refine Fw.X_ret ?_
    refine Fw.ret_ [.tmp 6] [_] Try.results10 (.tmp rfl .nil) ?_
    have hE : Us.standE l id e = 1 := by simp [Us.standE, hth]
    have hL : Us.standL l id e = l := by unfold Us.standL; rw [hE]; rfl
    rw [hE, hL]
    exact ⟨rfl, HR, HC⟩

set_option maxRecDepth 100000 in
set_option maxHeartbeats 1000000 in
theorem usReport_any (w : World) (B p g c : Nat) (l : List Us.U) (s : Us.S) (now e : Int) (h : RegAt w B p g c l) : Calls Try.prog 20 #[.pointer (some ⟨p, 0, none⟩), .agg (Us.S.cells s).toArray, .int .i64 now, .int .i64 e] w fun e_ w' => e_ = .returned (.tuple #[.bool (Us.repGone l s now e), .int .i64 (Us.repE l s now e)]) ∧ RegAt w' B p g c (Us.repL l s now e) ∧ Chg (· = g) w w' := by
  cases hth : Us.there l s.u with
  | true =>
    obtain ⟨i, hid, hi⟩ : ∃ i : Nat, s.u = i ∧ i < l.length := by have := of_decide_eq_true hth; exact ⟨(s.u).toNat, by omega, by omega⟩
    have hg := Us.get_at hid hi
    have HAt := h.at hi
    have HR := h
    have hlt := h.lt
    obtain ⟨hBp, hBg, HP, HO⟩ := h
    refine Fw.calls Try.func20 rfl Try.ntmps20 rfl ?_
    have HC := Chg.refl (· = g) w
    refine Fw.seq fun _ hK1 => ?_
    refine Fw.region ?_
    refine Fw.box rfl rfl ?_
    intro w1 gSb egSb HSb hb
    have hlt2 := hlt
    have n_p_gSb : p < gSb := by have := HP.lt; omega
    have lgSb : w.heap.size ≤ gSb := by have := HC.size; omega
    replace HP := HP.low hb
    replace HAt := HAt.low hb
    replace HR := HR.low hb
    replace HC := HC.trans (Chg.of_below hb (· = g)) (fun _ _ h => h)
    clear hb
    clear egSb
    refine Fw.s (Fw.val_assign rfl) rfl ?_
    refine Fw.s (Fw.val_assign rfl) rfl ?_
    refine Fw.nil ?_
    refine hK1 _ _ ?_
    refine Fw.seq fun _ hK2 => ?_
    refine Fw.region ?_
    refine Fw.s (Fw.val_move rfl) rfl ?_
    refine Fw.s (Fw.val_fieldAddr fl60_0 rfl rfl) rfl ?_
    refine Fw.ld sc3 rfl (HSb.cell 0) rfl ?_
    refine Fw.call cf32 rfl rfl (find_in _ B p g c l _ i hid hi HR) ?_
    rintro e_ _ ⟨rfl, rfl⟩
    refine ⟨_, rfl, ?_⟩
    refine Fw.s (Fw.val_assign rfl) rfl ?_
    refine Fw.nil ?_
    refine hK2 _ _ (Fw.FC.sub (f' := [(10, _), (5, _), (2, _), (3, _)]) (.cons rfl (.cons rfl (.cons rfl (.cons rfl .nil)))) ?_)
    refine Fw.seq fun _ hK3 => ?_
    refine Fw.seq fun _ hK4 => ?_
    refine Fw.region ?_
    refine Fw.s (Fw.val_move rfl) rfl ?_
    refine Fw.s (Fw.val_bin rfl rfl (Fw.b_nilP Try.underlying90)) rfl ?_
    refine Fw.s (Fw.val_move rfl) rfl ?_
    refine Fw.gT (d := 18) rfl rfl ?_
    refine Fw.s (Fw.val_move rfl) rfl ?_
    refine Fw.gT (d := 18) rfl rfl ?_
    refine Fw.ldA ag60 rfl (Fw.rdBlk HSb) rfl rfl ?_
    refine Fw.gT (d := 18) rfl rfl ?_
    refine Fw.call cf50 rfl rfl (validReport_any _ g (i * 15) l[i] s (HAt.rd Us.U.len)) ?_
    rintro e_ w2 ⟨rfl, hb⟩
    refine ⟨_, rfl, ?_⟩
    replace HP := HP.low hb
    replace HAt := HAt.low hb
    replace HR := HR.low hb
    replace HSb := HSb.low hb
    replace HC := HC.trans (Chg.of_below hb (· = g)) (fun _ _ h => h)
    clear hb
    refine Fw.b2 ?_ ?_
    rintro h1
    refine Fw.gT (d := 18) rfl rfl ?_
    refine Fw.s (Fw.val_not rfl) rfl ?_
    refine Fw.s (Fw.val_pickF rfl rfl) rfl ?_
    refine Fw.s (Fw.val_move rfl) rfl ?_
    refine Fw.gT (d := 24) rfl rfl ?_
    refine Fw.s (Fw.val_move rfl) rfl ?_
    refine Fw.gT (d := 24) rfl rfl ?_
    refine Fw.call cf37 rfl rfl (validTick_any _ _) ?_
    rintro e_ _ ⟨rfl, rfl⟩
    refine ⟨_, rfl, ?_⟩
    refine Fw.b2 ?_ ?_
    rintro h2
    refine Fw.gT (d := 24) rfl rfl ?_
    refine Fw.s (Fw.val_not rfl) rfl ?_
    refine Fw.s (Fw.val_pickF rfl rfl) rfl ?_
    refine Fw.s (Fw.val_move rfl) rfl ?_
    refine Fw.gT (d := 29) rfl rfl ?_
    refine Fw.s (Fw.val_move rfl) rfl ?_
    refine Fw.gT (d := 29) rfl rfl ?_
    refine Fw.s (Fw.val_move rfl) rfl ?_
    refine Fw.gT (d := 29) rfl rfl ?_
    refine Fw.call cf34 rfl rfl (validEpoch_any _ g (i * 15) l[i] _ (HAt.rd Us.U.len)) ?_
    rintro e_ _ ⟨rfl, rfl⟩
    refine ⟨_, rfl, ?_⟩
    refine Fw.b2 ?_ ?_
    rintro h3
    refine Fw.gT (d := 29) rfl rfl ?_
    refine Fw.s (Fw.val_not rfl) rfl ?_
    refine Fw.s (Fw.val_pickF rfl rfl) rfl ?_
    refine Fw.nil ?_
    refine hK4 _ _ (Fw.FC.sub (f' := [(34, _), (10, _), (5, _), (2, _), (3, _)]) (.cons rfl (.cons rfl (.cons rfl (.cons rfl (.cons rfl .nil))))) ?_)
    refine Fw.condF rfl ?_
    refine Fw.skip ?_
    refine hK3 _ _ ?_
    refine Fw.seq fun _ hK5 => ?_
    refine Fw.seq fun _ hK6 => ?_
    refine Fw.regionQ (by kernel_rfl) (by kernel_rfl) ?_
    refine Fw.q (Fw.val_fieldAddr fl60_1 rfl rfl) rfl ?_
    refine Fw.ldQ sc2 rfl (HSb.cell 1) rfl ?_
    refine Fw.q (Fw.val_move rfl) rfl ?_
    refine Fw.q (Fw.val_nil rfl) rfl ?_
    refine Fw.q (Fw.val_fieldAddr fl83_0 rfl rfl) rfl ?_
    refine Fw.q (Fw.val_fieldAddr fl69_5 rfl rfl) rfl ?_
    refine Fw.ldQ sc2 rfl (HAt.cell Us.U.len 5 rfl) rfl ?_
    refine Fw.q2 (Fw.val_bin rfl rfl Fw.b_leq) rfl ?_ ?_
    rintro hsq
    refine Fw.nilQ ?_
    intro w3 hb
    replace HP := HP.low hb
    replace HAt := HAt.low hb
    replace HR := HR.low hb
    replace HSb := HSb.low hb
    replace HC := HC.trans (Chg.of_below hb (· = g)) (fun _ _ h => h)
    clear hb
    refine hK6 _ _ (Fw.FC.sub (f' := [(42, _), (10, _), (5, _), (2, _), (3, _)]) (.cons rfl (.cons rfl (.cons rfl (.cons rfl (.cons rfl .nil))))) ?_)
    refine Fw.condT rfl ?_
    refine Fw.seq fun _ hK8 => ?_
    refine Fw.region ?_
    refine Fw.s (Fw.val_assign rfl) rfl ?_
    refine Fw.s (Fw.val_assign rfl) rfl ?_
    refine Fw.nil ?_
    refine hK8 _ _ ?_
    refine Fw.ret ?_
    refine Fw.X_ret ?_
    refine Fw.ret_ [.tmp 8, .tmp 9] [_, _] Try.results20 (.tmp rfl (.tmp rfl .nil)) ?_
    have hE : Us.repE l s now e = 9 := by simp [Us.repE, hth, hg, h1, h2, h3, hsq]
    have hL : Us.repL l s now e = l := by unfold Us.repL; rw [hE]; rfl
    have hG : Us.repGone l s now e = false := by unfold Us.repGone; rw [hE]; rfl
    rw [hE, hL, hG]
    exact ⟨rfl, HR, HC⟩
    rintro hsq
    refine Fw.nilQ ?_
    intro w4 hb
    replace HP := HP.low hb
    replace HAt := HAt.low hb
    replace HR := HR.low hb
    replace HSb := HSb.low hb
    replace HC := HC.trans (Chg.of_below hb (· = g)) (fun _ _ h => h)
    clear hb
    refine hK6 _ _ (Fw.FC.sub (f' := [(42, _), (10, _), (5, _), (2, _), (3, _)]) (.cons rfl (.cons rfl (.cons rfl (.cons rfl (.cons rfl .nil))))) ?_)
    refine Fw.condF rfl ?_
    refine Fw.skip ?_
    refine hK5 _ _ ?_
    refine Fw.seq_cut [(10, .pointer (some ⟨g, i * 15, none⟩)), (5, .pointer (some ⟨gSb, 0, none⟩)), (3, .int .i64 e)] (fun W_ => Fw.At W_ B 83 15 g c Us.U.cells l i (Us.U.cells { l[i] with seq := s.q, heard := now, node := s.n }) ∧ Blk W_ gSb 60 (Us.S.cells s).toArray ∧ Blk W_ p 80 #[.slice (some ⟨g, 0, none⟩) l.length c] ∧ Chg (· = g) w W_) ?_ (fun _ hK9 => ?_)
    rintro w5 ⟨HAt, HSb, HP, HC⟩
    refine Fw.seq fun _ hK10 => ?_
    refine Fw.regionHS (Chg (· = g) w5) (by kernel_rfl) (Chg.of_below (Fw.drew_low w5) _) ?_
    have R_HSb := HSb
    have R_HP := HP
    intro w6 hb HS
    replace HAt := HAt.low hb
    replace HSb := HSb.low hb
    replace HP := HP.low hb
    replace HC := HC.trans (Chg.of_below hb (· = g)) (fun _ _ h => h)
    clear hb
    refine Fw.hTake 0 rfl rfl (by kernel_rfl) (by kernel_rfl) (by kernel_rfl) (Fw.yV (Fw.val_move rfl)) rfl ?_
    refine Fw.hTake 1 rfl rfl (by kernel_rfl) (by kernel_rfl) (by kernel_rfl) (Fw.yV (Fw.val_move rfl)) rfl ?_
    refine Fw.hTake 2 rfl rfl (by kernel_rfl) (by kernel_rfl) (by kernel_rfl) (Fw.yV (Fw.val_nil rfl)) rfl ?_
    refine Fw.hTake 3 rfl rfl (by kernel_rfl) (by kernel_rfl) (by kernel_rfl) (Fw.yV (Fw.val_fieldAddr fl83_0 rfl rfl)) rfl ?_
    refine Fw.hTake 4 rfl rfl (by kernel_rfl) (by kernel_rfl) (by kernel_rfl) (Fw.yV (Fw.val_fieldAddr fl69_9 rfl rfl)) rfl ?_
    refine Fw.hTake 6 rfl rfl (by kernel_rfl) (by kernel_rfl) (by kernel_rfl) (Fw.yV (Fw.val_fieldAddr fl60_4 rfl rfl)) rfl ?_
    refine Fw.hTake 7 rfl rfl (by kernel_rfl) (by kernel_rfl) (by kernel_rfl) (Fw.yV (Fw.hLdC sc2 rfl (R_HSb.cell 4) (by show ¬ gSb = g; omega))) rfl ?_
    refine Fw.hAll1 5 (by kernel_rfl) ?_
    refine Fw.hOp 5 rfl ?_
    refine Fw.ld sc2 rfl (HAt.cell Us.U.len 9 rfl) rfl ?_
    refine Fw.hNext HS ?_
    refine Fw.hAll1 8 (by kernel_rfl) ?_
    refine Fw.hOp 8 rfl ?_
    refine Fw.s (Fw.val_max rfl rfl (by show (if s.e > l[i].ack then s.e else l[i].ack) = max l[i].ack s.e; split <;> omega)) rfl ?_
    refine Fw.hNext HS ?_
    refine Fw.hTake 9 rfl rfl (by kernel_rfl) (by kernel_rfl) (by kernel_rfl) (Fw.yV (Fw.val_nil rfl)) rfl ?_
    refine Fw.hTake 10 rfl rfl (by kernel_rfl) (by kernel_rfl) (by kernel_rfl) (Fw.yV (Fw.val_fieldAddr fl83_0 rfl rfl)) rfl ?_
    refine Fw.hTake 11 rfl rfl (by kernel_rfl) (by kernel_rfl) (by kernel_rfl) (Fw.yV (Fw.val_fieldAddr fl69_9 rfl rfl)) rfl ?_
    refine Fw.hAll1 12 (by kernel_rfl) ?_
    refine Fw.hOp 12 rfl ?_
    refine Fw.storeI Us.U.len sz2 rfl rfl HAt rfl rfl rfl ?_
    intro w7 N_ hc
    replace HSb := HSb.chg hc (by omega)
    replace HP := HP.chg hc (by omega)
    replace HS := HS.trans hc (fun _ _ h => h)
    replace HC := HC.trans hc (fun k hk_ e => by first | exact e | (left; exact e) | (right; exact e) | (exfalso; omega))
    clear hc
    clear HAt
    have HAt := N_
    clear N_
    refine Fw.hNext HS ?_
    refine Fw.hDone (by kernel_rfl) ?_
    refine hK10 _ _ (Fw.FC.sub (f' := [(10, _), (5, _), (3, _)]) (.cons rfl (.cons rfl (.cons rfl .nil))) ?_)
    refine Fw.seq fun _ hK11 => ?_
    refine Fw.seq fun _ hK12 => ?_
    refine Fw.region ?_
    refine Fw.s (Fw.val_fieldAddr fl60_2 rfl rfl) rfl ?_
    refine Fw.ld sc3 rfl (HSb.cell 2) rfl ?_
    refine Fw.s2 (Fw.val_bin rfl rfl Fw.b_eql) rfl ?_ ?_
    rintro h6
    refine Fw.nil ?_
    refine hK12 _ _ ?_
    refine Fw.condT rfl ?_
    refine Fw.seq fun _ hK14 => ?_
    refine Fw.region ?_
    refine Fw.s (Fw.val_move rfl) rfl ?_
    refine Fw.s (Fw.val_nil rfl) rfl ?_
    refine Fw.s (Fw.val_fieldAddr fl83_0 rfl rfl) rfl ?_
    refine Fw.s (Fw.val_fieldAddr fl69_3 rfl rfl) rfl ?_
    refine Fw.storeI Us.U.len sz3 rfl rfl HAt rfl rfl rfl ?_
    intro w8 N_ hc
    replace HSb := HSb.chg hc (by omega)
    replace HP := HP.chg hc (by omega)
    replace HC := HC.trans hc (fun k hk_ e => by first | exact e | (left; exact e) | (right; exact e) | (exfalso; omega))
    clear hc
    clear HAt
    have HAt := N_
    clear N_
    refine Fw.nil ?_
    refine hK14 _ _ (Fw.FC.sub (f' := [(10, _), (3, _)]) (.cons rfl (.cons rfl .nil)) ?_)
    refine Fw.seq fun _ hK15 => ?_
    refine Fw.region ?_
    refine Fw.s (Fw.val_move rfl) rfl ?_
    refine Fw.call cf36 rfl rfl (release_any _ B g c i l ({ Us.rep1 l[i] s now with state := 6 }) HAt) ?_
    rintro e_ w9 ⟨rfl, HAt_, hc⟩
    refine ⟨_, rfl, ?_⟩
    replace HSb := HSb.chg hc (by omega)
    replace HP := HP.chg hc (by omega)
    replace HC := HC.trans hc (fun k hk_ e => by first | exact e | (left; exact e) | (right; exact e) | (exfalso; omega))
    clear hc
    clear HAt
    have HAt := HAt_
    clear HAt_
    refine Fw.b2 ?_ ?_
    rintro hinc
    refine Fw.s (Fw.val_assign rfl) rfl ?_
    refine Fw.nil ?_
    refine hK15 _ _ ?_
    refine Fw.seq fun _ hK16 => ?_
    refine Fw.seq fun _ hK17 => ?_
    refine Fw.region ?_
    refine Fw.s (Fw.val_move rfl) rfl ?_
    refine Fw.nil ?_
    refine hK17 _ _ ?_
    refine Fw.condT rfl ?_
    refine Fw.region ?_
    refine Fw.s (Fw.val_move rfl) rfl ?_
    refine Fw.s (Fw.val_move rfl) rfl ?_
    refine Fw.call cf35 rfl rfl (issue_any _ B g c i l ({ Us.rep1 l[i] s now with state := 6, inc := 0 }) (e) (2) (0) (0) HAt) ?_
    rintro e_ w10 ⟨rfl, HAt_, hc⟩
    refine ⟨_, rfl, ?_⟩
    replace HSb := HSb.chg hc (by omega)
    replace HP := HP.chg hc (by omega)
    replace HC := HC.trans hc (fun k hk_ e => by first | exact e | (left; exact e) | (right; exact e) | (exfalso; omega))
    clear hc
    clear HAt
    have HAt := HAt_
    clear HAt_
    refine Fw.nil ?_
    refine hK16 _ _ (Fw.FC.sub (f' := [(11, _)]) (.cons rfl .nil) ?_)
    refine Fw.seq fun _ hK18 => ?_
    refine Fw.region ?_
    refine Fw.s (Fw.val_move rfl) rfl ?_
    refine Fw.s (Fw.val_assign rfl) rfl ?_
    refine Fw.s (Fw.val_assign rfl) rfl ?_
    refine Fw.nil ?_
    refine hK18 _ _ ?_
    refine Fw.ret ?_
    refine Fw.X_ret ?_
    refine Fw.ret_ [.tmp 8, .tmp 9] [_, _] Try.results20 (.tmp rfl (.tmp rfl .nil)) ?_
    have hE : Us.repE l s now e = 0 := by simp [Us.repE, hth, hg, h1, h2, h3, hsq]
    have hL : Us.repL l s now e = l.set i (Us.repU l[i] s now e) := by unfold Us.repL; rw [if_pos hE, hg]; unfold Us.put; rw [hid, Int.toNat_natCast]
    have hG : Us.repGone l s now e = Us.repG l[i] s := by unfold Us.repGone; rw [hE, hg]; simp
    have hU : Us.repU l[i] s now e = Us.issue { Us.rep1 l[i] s now with state := 6, inc := 0 } e 2 0 0 := by
      have hinc2 : l[i].inc ≠ 0 := of_decide_eq_true hinc
      unfold Us.repU; rw [if_pos h6, if_pos hinc2]
    have hB : Us.repG l[i] s = true := by
      have hinc2 : decide (l[i].inc ≠ 0) = true := hinc
      simp only [Us.repG, h6]; rw [hinc2]; simp
    rw [hE, hL, hG, hB, hU]
    exact ⟨rfl, RegAt.of _ hBp hBg HP HAt, HC⟩
    rintro hinc
    refine Fw.s (Fw.val_assign rfl) rfl ?_
    refine Fw.nil ?_
    refine hK15 _ _ ?_
    refine Fw.seq fun _ hK19 => ?_
    refine Fw.seq fun _ hK20 => ?_
    refine Fw.region ?_
    refine Fw.s (Fw.val_move rfl) rfl ?_
    refine Fw.nil ?_
    refine hK20 _ _ ?_
    refine Fw.condF rfl ?_
    refine Fw.skip ?_
    refine hK19 _ _ ?_
    refine Fw.seq fun _ hK21 => ?_
    refine Fw.region ?_
    refine Fw.s (Fw.val_move rfl) rfl ?_
    refine Fw.s (Fw.val_assign rfl) rfl ?_
    refine Fw.s (Fw.val_assign rfl) rfl ?_
    refine Fw.nil ?_
    refine hK21 _ _ (Fw.FC.sub (f' := [(9, _), (8, _)]) (.cons rfl (.cons rfl .nil)) ?_)
    refine Fw.ret ?_
    refine Fw.X_ret ?_
    refine Fw.ret_ [.tmp 8, .tmp 9] [_, _] Try.results20 (.tmp rfl (.tmp rfl .nil)) ?_
    have hE : Us.repE l s now e = 0 := by simp [Us.repE, hth, hg, h1, h2, h3, hsq]
    have hL : Us.repL l s now e = l.set i (Us.repU l[i] s now e) := by unfold Us.repL; rw [if_pos hE, hg]; unfold Us.put; rw [hid, Int.toNat_natCast]
    have hG : Us.repGone l s now e = Us.repG l[i] s := by unfold Us.repGone; rw [hE, hg]; simp
    have hU : Us.repU l[i] s now e = { Us.rep1 l[i] s now with state := 6, inc := 0 } := by
      have hinc2 : ¬ l[i].inc ≠ 0 := of_decide_eq_false hinc
      unfold Us.repU; rw [if_pos h6, if_neg hinc2]
    have hB : Us.repG l[i] s = false := by
      have hinc2 : decide (l[i].inc ≠ 0) = false := hinc
      unfold Us.repG; rw [hinc2]; rfl
    rw [hE, hL, hG, hB, hU]
    exact ⟨rfl, RegAt.of _ hBp hBg HP HAt, HC⟩
    rintro h6
    refine Fw.nil ?_
    refine hK12 _ _ ?_
    refine Fw.condF rfl ?_
    refine Fw.skip ?_
    refine hK11 _ _ ?_
    refine Fw.seq fun _ hK22 => ?_
    refine Fw.seq fun _ hK23 => ?_
    refine Fw.regionQ (by kernel_rfl) (by kernel_rfl) ?_
    refine Fw.q (Fw.val_fieldAddr fl60_4 rfl rfl) rfl ?_
    refine Fw.ldQ sc2 rfl (HSb.cell 4) rfl ?_
    refine Fw.q (Fw.val_move rfl) rfl ?_
    refine Fw.q (Fw.val_nil rfl) rfl ?_
    refine Fw.q (Fw.val_fieldAddr fl83_0 rfl rfl) rfl ?_
    refine Fw.q (Fw.val_fieldAddr fl69_8 rfl rfl) rfl ?_
    refine Fw.ldQ sc2 rfl (HAt.cell Us.U.len 8 rfl) rfl ?_
    refine Fw.q2 (Fw.val_bin rfl rfl Fw.b_neq) rfl ?_ ?_
    rintro hep
    refine Fw.nilQ ?_
    intro w11 hb
    replace HAt := HAt.low hb
    replace HSb := HSb.low hb
    replace HP := HP.low hb
    replace HC := HC.trans (Chg.of_below hb (· = g)) (fun _ _ h => h)
    clear hb
    refine hK23 _ _ (Fw.FC.sub (f' := [(93, _), (10, _), (5, _)]) (.cons rfl (.cons rfl (.cons rfl .nil))) ?_)
    refine Fw.condT rfl ?_
    refine Fw.seq fun _ hK25 => ?_
    refine Fw.region ?_
    refine Fw.s (Fw.val_assign rfl) rfl ?_
    refine Fw.s (Fw.val_assign rfl) rfl ?_
    refine Fw.nil ?_
    refine hK25 _ _ ?_
    refine Fw.ret ?_
    refine Fw.X_ret ?_
    refine Fw.ret_ [.tmp 8, .tmp 9] [_, _] Try.results20 (.tmp rfl (.tmp rfl .nil)) ?_
    have hE : Us.repE l s now e = 0 := by simp [Us.repE, hth, hg, h1, h2, h3, hsq]
    have hL : Us.repL l s now e = l.set i (Us.repU l[i] s now e) := by unfold Us.repL; rw [if_pos hE, hg]; unfold Us.put; rw [hid, Int.toNat_natCast]
    have hG : Us.repGone l s now e = Us.repG l[i] s := by unfold Us.repGone; rw [hE, hg]; simp
    have hU : Us.repU l[i] s now e = Us.rep1 l[i] s now := by
      unfold Us.repU; rw [if_neg h6, if_pos hep]
    have hB : Us.repG l[i] s = false := by
      unfold Us.repG; rw [show decide (s.s = 6 ∨ (s.e = l[i].ep ∧ s.s = 1)) = false from decide_eq_false (fun hh => by rcases hh with hh | hh; exact h6 hh; exact hep hh.1)]; simp
    rw [hE, hL, hG, hB, hU]
    exact ⟨rfl, RegAt.of _ hBp hBg HP HAt, HC⟩
    rintro hep
    refine Fw.nilQ ?_
    intro w12 hb
    replace HAt := HAt.low hb
    replace HSb := HSb.low hb
    replace HP := HP.low hb
    replace HC := HC.trans (Chg.of_below hb (· = g)) (fun _ _ h => h)
    clear hb
    refine hK23 _ _ (Fw.FC.sub (f' := [(93, _), (10, _), (5, _)]) (.cons rfl (.cons rfl (.cons rfl .nil))) ?_)
    refine Fw.condF rfl ?_
    refine Fw.skip ?_
    refine hK22 _ _ ?_
    refine Fw.seq fun _ hK26 => ?_
    refine Fw.region ?_
    refine Fw.s (Fw.val_move rfl) rfl ?_
    refine Fw.s (Fw.val_fieldAddr fl60_2 rfl rfl) rfl ?_
    refine Fw.ld sc3 rfl (HSb.cell 2) rfl ?_
    refine Fw.s (Fw.val_nil rfl) rfl ?_
    refine Fw.s (Fw.val_fieldAddr fl83_0 rfl rfl) rfl ?_
    refine Fw.s (Fw.val_fieldAddr fl69_3 rfl rfl) rfl ?_
    refine Fw.storeI Us.U.len sz3 rfl rfl HAt rfl rfl rfl ?_
    intro w13 N_ hc
    replace HSb := HSb.chg hc (by omega)
    replace HP := HP.chg hc (by omega)
    replace HC := HC.trans hc (fun k hk_ e => by first | exact e | (left; exact e) | (right; exact e) | (exfalso; omega))
    clear hc
    clear HAt
    have HAt := N_
    clear N_
    refine Fw.nil ?_
    refine hK26 _ _ (Fw.FC.sub (f' := [(10, _), (5, _)]) (.cons rfl (.cons rfl .nil)) ?_)
    refine Fw.seq fun _ hK27 => ?_
    refine Fw.region ?_
    refine Fw.s (Fw.val_fieldAddr fl60_2 rfl rfl) rfl ?_
    refine Fw.ld sc3 rfl (HSb.cell 2) rfl ?_
    refine Fw.s2 (Fw.val_bin rfl rfl Fw.b_eql) rfl ?_ ?_
    rintro hs1
    refine Fw.s (Fw.val_move rfl) rfl ?_
    refine Fw.gT (d := 103) rfl rfl ?_
    refine Fw.s (Fw.val_move rfl) rfl ?_
    refine Fw.gT (d := 103) rfl rfl ?_
    refine Fw.call cf36 rfl rfl (release_any _ B g c i l ({ Us.rep1 l[i] s now with state := s.s }) HAt) ?_
    rintro e_ w14 ⟨rfl, HAt_, hc⟩
    refine ⟨_, rfl, ?_⟩
    replace HSb := HSb.chg hc (by omega)
    replace HP := HP.chg hc (by omega)
    replace HC := HC.trans hc (fun k hk_ e => by first | exact e | (left; exact e) | (right; exact e) | (exfalso; omega))
    clear hc
    clear HAt
    have HAt := HAt_
    clear HAt_
    refine Fw.s (Fw.val_pickT rfl rfl) rfl ?_
    refine Fw.s (Fw.val_assign rfl) rfl ?_
    refine Fw.s (Fw.val_assign rfl) rfl ?_
    refine Fw.nil ?_
    refine hK27 _ _ (Fw.FC.sub (f' := [(9, _), (8, _)]) (.cons rfl (.cons rfl .nil)) ?_)
    refine Fw.ret ?_
    refine Fw.ret_ [.tmp 8, .tmp 9] [_, _] Try.results20 (.tmp rfl (.tmp rfl .nil)) ?_
    have hE : Us.repE l s now e = 0 := by simp [Us.repE, hth, hg, h1, h2, h3, hsq]
    have hL : Us.repL l s now e = l.set i (Us.repU l[i] s now e) := by unfold Us.repL; rw [if_pos hE, hg]; unfold Us.put; rw [hid, Int.toNat_natCast]
    have hG : Us.repGone l s now e = Us.repG l[i] s := by unfold Us.repGone; rw [hE, hg]; simp
    have hU : Us.repU l[i] s now e = { Us.rep1 l[i] s now with state := s.s, inc := 0 } := by
      unfold Us.repU; rw [if_neg h6, if_neg hep, if_pos hs1]
    have hB : Us.repG l[i] s = decide (l[i].inc ≠ 0) := by
      unfold Us.repG; rw [show decide (s.s = 6 ∨ (s.e = l[i].ep ∧ s.s = 1)) = true from decide_eq_true (.inr ⟨Classical.byContradiction hep, hs1⟩)]; simp
    rw [hE, hL, hG, hB, hU]
    exact ⟨rfl, RegAt.of _ hBp hBg HP HAt, HC⟩
    rintro hs1
    refine Fw.s (Fw.val_move rfl) rfl ?_
    refine Fw.gF (d := 103) rfl rfl rfl rfl ?_
    refine Fw.gF (d := 103) rfl rfl rfl rfl ?_
    refine Fw.s (Fw.val_pickF rfl rfl) rfl ?_
    refine Fw.s (Fw.val_assign rfl) rfl ?_
    refine Fw.s (Fw.val_assign rfl) rfl ?_
    refine Fw.nil ?_
    refine hK27 _ _ (Fw.FC.sub (f' := [(9, _), (8, _)]) (.cons rfl (.cons rfl .nil)) ?_)
    refine Fw.ret ?_
    refine Fw.ret_ [.tmp 8, .tmp 9] [_, _] Try.results20 (.tmp rfl (.tmp rfl .nil)) ?_
    have hE : Us.repE l s now e = 0 := by simp [Us.repE, hth, hg, h1, h2, h3, hsq]
    have hL : Us.repL l s now e = l.set i (Us.repU l[i] s now e) := by unfold Us.repL; rw [if_pos hE, hg]; unfold Us.put; rw [hid, Int.toNat_natCast]
    have hG : Us.repGone l s now e = Us.repG l[i] s := by unfold Us.repGone; rw [hE, hg]; simp
    have hU : Us.repU l[i] s now e = { Us.rep1 l[i] s now with state := s.s } := by
      unfold Us.repU; rw [if_neg h6, if_neg hep, if_neg hs1]
    have hB : Us.repG l[i] s = false := by
      unfold Us.repG; rw [show decide (s.s = 6 ∨ (s.e = l[i].ep ∧ s.s = 1)) = false from decide_eq_false (fun hh => by rcases hh with hh | hh; exact h6 hh; exact hs1 hh.2)]; simp
    rw [hE, hL, hG, hB, hU]
    exact ⟨rfl, RegAt.of _ hBp hBg HP HAt, HC⟩
    refine Fw.regionHS (Chg (· = g) w4) (by kernel_rfl) (Chg.of_below (Fw.drew_low w4) _) ?_
    have R_HP := HP
    have R_HSb := HSb
    intro w15 hb HS
    replace HP := HP.low hb
    replace HAt := HAt.low hb
    replace HR := HR.low hb
    replace HSb := HSb.low hb
    replace HC := HC.trans (Chg.of_below hb (· = g)) (fun _ _ h => h)
    clear hb
    refine Fw.hTake 0 rfl rfl (by kernel_rfl) (by kernel_rfl) (by kernel_rfl) (Fw.yV (Fw.val_move rfl)) rfl ?_
    refine Fw.hTake 1 rfl rfl (by kernel_rfl) (by kernel_rfl) (by kernel_rfl) (Fw.yV (Fw.val_move rfl)) rfl ?_
    refine Fw.hTake 2 rfl rfl (by kernel_rfl) (by kernel_rfl) (by kernel_rfl) (Fw.yV (Fw.val_move rfl)) rfl ?_
    refine Fw.hTake 3 rfl rfl (by kernel_rfl) (by kernel_rfl) (by kernel_rfl) (Fw.yV (Fw.val_fieldAddr fl60_1 rfl rfl)) rfl ?_
    refine Fw.hTake 4 rfl rfl (by kernel_rfl) (by kernel_rfl) (by kernel_rfl) (Fw.yV (Fw.hLdC sc2 rfl (R_HSb.cell 1) (by show ¬ gSb = g; omega))) rfl ?_
    refine Fw.hTake 5 rfl rfl (by kernel_rfl) (by kernel_rfl) (by kernel_rfl) (Fw.yV (Fw.val_move rfl)) rfl ?_
    refine Fw.hTake 6 rfl rfl (by kernel_rfl) (by kernel_rfl) (by kernel_rfl) (Fw.yV (Fw.val_fieldAddr fl60_3 rfl rfl)) rfl ?_
    refine Fw.hTake 7 rfl rfl (by kernel_rfl) (by kernel_rfl) (by kernel_rfl) (Fw.yV (Fw.hLdC sc3 rfl (R_HSb.cell 3) (by show ¬ gSb = g; omega))) rfl ?_
    refine Fw.hTake 8 rfl rfl (by kernel_rfl) (by kernel_rfl) (by kernel_rfl) (Fw.yV (Fw.val_nil rfl)) rfl ?_
    refine Fw.hTake 9 rfl rfl (by kernel_rfl) (by kernel_rfl) (by kernel_rfl) (Fw.yV (Fw.val_fieldAddr fl83_0 rfl rfl)) rfl ?_
    refine Fw.hTake 10 rfl rfl (by kernel_rfl) (by kernel_rfl) (by kernel_rfl) (Fw.yV (Fw.val_fieldAddr fl69_5 rfl rfl)) rfl ?_
    refine Fw.hAll1 11 (by kernel_rfl) ?_
    refine Fw.hOp 11 rfl ?_
    refine Fw.storeI Us.U.len sz2 rfl rfl HAt rfl rfl rfl ?_
    intro w16 N_ hc
    replace HP := HP.chg hc (by omega)
    replace HR := trivial
    replace HSb := HSb.chg hc (by omega)
    replace HS := HS.trans hc (fun _ _ h => h)
    replace HC := HC.trans hc (fun k hk_ e => by first | exact e | (left; exact e) | (right; exact e) | (exfalso; omega))
    clear hc
    clear HAt
    have HAt := N_
    clear N_
    refine Fw.hNext HS ?_
    refine Fw.hTake 12 rfl rfl (by kernel_rfl) (by kernel_rfl) (by kernel_rfl) (Fw.yV (Fw.val_nil rfl)) rfl ?_
    refine Fw.hTake 13 rfl rfl (by kernel_rfl) (by kernel_rfl) (by kernel_rfl) (Fw.yV (Fw.val_fieldAddr fl83_0 rfl rfl)) rfl ?_
    refine Fw.hTake 14 rfl rfl (by kernel_rfl) (by kernel_rfl) (by kernel_rfl) (Fw.yV (Fw.val_fieldAddr fl69_6 rfl rfl)) rfl ?_
    refine Fw.hAll1 15 (by kernel_rfl) ?_
    refine Fw.hOp 15 rfl ?_
    refine Fw.storeI Us.U.len sz2 rfl rfl HAt rfl rfl rfl ?_
    intro w17 N_ hc
    replace HP := HP.chg hc (by omega)
    replace HR := trivial
    replace HSb := HSb.chg hc (by omega)
    replace HS := HS.trans hc (fun _ _ h => h)
    replace HC := HC.trans hc (fun k hk_ e => by first | exact e | (left; exact e) | (right; exact e) | (exfalso; omega))
    clear hc
    clear HAt
    have HAt := N_
    clear N_
    refine Fw.hNext HS ?_
    refine Fw.hTake 16 rfl rfl (by kernel_rfl) (by kernel_rfl) (by kernel_rfl) (Fw.yV (Fw.val_nil rfl)) rfl ?_
    refine Fw.hTake 17 rfl rfl (by kernel_rfl) (by kernel_rfl) (by kernel_rfl) (Fw.yV (Fw.val_fieldAddr fl83_0 rfl rfl)) rfl ?_
    refine Fw.hTake 18 rfl rfl (by kernel_rfl) (by kernel_rfl) (by kernel_rfl) (Fw.yV (Fw.val_fieldAddr fl69_4 rfl rfl)) rfl ?_
    refine Fw.hAll1 19 (by kernel_rfl) ?_
    refine Fw.hOp 19 rfl ?_
    refine Fw.storeI Us.U.len sz3 rfl rfl HAt rfl rfl rfl ?_
    intro w18 N_ hc
    replace HP := HP.chg hc (by omega)
    replace HR := trivial
    replace HSb := HSb.chg hc (by omega)
    replace HS := HS.trans hc (fun _ _ h => h)
    replace HC := HC.trans hc (fun k hk_ e => by first | exact e | (left; exact e) | (right; exact e) | (exfalso; omega))
    clear hc
    clear HAt
    have HAt := N_
    clear N_
    refine Fw.hNext HS ?_
    refine Fw.hDone (by kernel_rfl) ?_
    exact hK9 _ _ ⟨HAt, HSb, HP, HC⟩ (.cons rfl (.cons rfl (.cons rfl .nil)))
    rintro h3
    refine Fw.gT (d := 29) rfl rfl ?_
    refine Fw.s (Fw.val_not rfl) rfl ?_
    refine Fw.s (Fw.val_pickF rfl rfl) rfl ?_
    refine Fw.nil ?_
    refine hK4 _ _ (Fw.FC.sub (f' := [(34, _), (10, _), (5, _), (2, _), (3, _)]) (.cons rfl (.cons rfl (.cons rfl (.cons rfl (.cons rfl .nil))))) ?_)
    refine Fw.condT rfl ?_
    refine Fw.seq fun _ hK29 => ?_
    refine Fw.region ?_
    refine Fw.s (Fw.val_assign rfl) rfl ?_
    refine Fw.s (Fw.val_assign rfl) rfl ?_
    refine Fw.nil ?_
    refine hK29 _ _ ?_
    refine Fw.ret ?_
    refine Fw.X_ret ?_
    refine Fw.ret_ [.tmp 8, .tmp 9] [_, _] Try.results20 (.tmp rfl (.tmp rfl .nil)) ?_
    have hE : Us.repE l s now e = 1 := by simp [Us.repE, hth, hg, h1, h2, h3]
    have hL : Us.repL l s now e = l := by unfold Us.repL; rw [hE]; rfl
    have hG : Us.repGone l s now e = false := by unfold Us.repGone; rw [hE]; rfl
    rw [hE, hL, hG]
    exact ⟨rfl, HR, HC⟩
    rintro h2
    refine Fw.gT (d := 24) rfl rfl ?_
    refine Fw.s (Fw.val_not rfl) rfl ?_
    refine Fw.s (Fw.val_pickF rfl rfl) rfl ?_
    refine Fw.s (Fw.val_move rfl) rfl ?_
    refine Fw.gF (d := 29) rfl rfl rfl rfl ?_
    refine Fw.gF (d := 29) rfl rfl rfl rfl ?_
    refine Fw.gF (d := 29) rfl rfl rfl rfl ?_
    refine Fw.gF (d := 29) rfl rfl rfl rfl ?_
    refine Fw.s (Fw.val_pickT rfl rfl) rfl ?_
    refine Fw.nil ?_
    refine hK4 _ _ (Fw.FC.sub (f' := [(34, _), (10, _), (5, _), (2, _), (3, _)]) (.cons rfl (.cons rfl (.cons rfl (.cons rfl (.cons rfl .nil))))) ?_)
    refine Fw.condT rfl ?_
    refine Fw.seq fun _ hK30 => ?_
    refine Fw.region ?_
    refine Fw.s (Fw.val_assign rfl) rfl ?_
    refine Fw.s (Fw.val_assign rfl) rfl ?_
    refine Fw.nil ?_
    refine hK30 _ _ ?_
    refine Fw.ret ?_
    refine Fw.X_ret ?_
    refine Fw.ret_ [.tmp 8, .tmp 9] [_, _] Try.results20 (.tmp rfl (.tmp rfl .nil)) ?_
    have hE : Us.repE l s now e = 1 := by simp [Us.repE, hth, hg, h1, h2]
    have hL : Us.repL l s now e = l := by unfold Us.repL; rw [hE]; rfl
    have hG : Us.repGone l s now e = false := by unfold Us.repGone; rw [hE]; rfl
    rw [hE, hL, hG]
    exact ⟨rfl, HR, HC⟩
    rintro h1
    refine Fw.gT (d := 18) rfl rfl ?_
    refine Fw.s (Fw.val_not rfl) rfl ?_
    refine Fw.s (Fw.val_pickF rfl rfl) rfl ?_
    refine Fw.s (Fw.val_move rfl) rfl ?_
    refine Fw.gF (d := 24) rfl rfl rfl rfl ?_
    refine Fw.gF (d := 24) rfl rfl rfl rfl ?_
    refine Fw.gF (d := 24) rfl rfl rfl rfl ?_
    refine Fw.s (Fw.val_pickT rfl rfl) rfl ?_
    refine Fw.s (Fw.val_move rfl) rfl ?_
    refine Fw.gF (d := 29) rfl rfl rfl rfl ?_
    refine Fw.gF (d := 29) rfl rfl rfl rfl ?_
    refine Fw.gF (d := 29) rfl rfl rfl rfl ?_
    refine Fw.gF (d := 29) rfl rfl rfl rfl ?_
    refine Fw.s (Fw.val_pickT rfl rfl) rfl ?_
    refine Fw.nil ?_
    refine hK4 _ _ (Fw.FC.sub (f' := [(34, _), (10, _), (5, _), (2, _), (3, _)]) (.cons rfl (.cons rfl (.cons rfl (.cons rfl (.cons rfl .nil))))) ?_)
    refine Fw.condT rfl ?_
    refine Fw.seq fun _ hK31 => ?_
    refine Fw.region ?_
    refine Fw.s (Fw.val_assign rfl) rfl ?_
    refine Fw.s (Fw.val_assign rfl) rfl ?_
    refine Fw.nil ?_
    refine hK31 _ _ ?_
    refine Fw.ret ?_
    refine Fw.X_ret ?_
    refine Fw.ret_ [.tmp 8, .tmp 9] [_, _] Try.results20 (.tmp rfl (.tmp rfl .nil)) ?_
    have hE : Us.repE l s now e = 1 := by simp [Us.repE, hth, hg, h1]
    have hL : Us.repL l s now e = l := by unfold Us.repL; rw [hE]; rfl
    have hG : Us.repGone l s now e = false := by unfold Us.repGone; rw [hE]; rfl
    rw [hE, hL, hG]
    exact ⟨rfl, HR, HC⟩
  | false =>
    have HR := h
    have hlt := h.lt
    refine Fw.calls Try.func20 rfl Try.ntmps20 rfl ?_
    have HC := Chg.refl (· = g) w
    refine Fw.seq fun _ hK1 => ?_
    refine Fw.region ?_
    refine Fw.box rfl rfl ?_
    intro w1 gSb egSb HSb hb
    have hlt2 := hlt
    have lgSb : w.heap.size ≤ gSb := by have := HC.size; omega
    replace HR := HR.low hb
    replace HC := HC.trans (Chg.of_below hb (· = g)) (fun _ _ h => h)
    clear hb
    clear egSb
    refine Fw.s (Fw.val_assign rfl) rfl ?_
    refine Fw.s (Fw.val_assign rfl) rfl ?_
    refine Fw.nil ?_
    refine hK1 _ _ ?_
    refine Fw.seq fun _ hK2 => ?_
    refine Fw.region ?_
    refine Fw.s (Fw.val_move rfl) rfl ?_
    refine Fw.s (Fw.val_fieldAddr fl60_0 rfl rfl) rfl ?_
    refine Fw.ld sc3 rfl (HSb.cell 0) rfl ?_
    refine Fw.call cf32 rfl rfl (find_out _ B p g c l _ hth HR) ?_
    rintro e_ _ ⟨rfl, rfl⟩
    refine ⟨_, rfl, ?_⟩
    refine Fw.s (Fw.val_assign rfl) rfl ?_
    refine Fw.nil ?_
    refine hK2 _ _ (Fw.FC.sub (f' := [(10, _), (5, _), (2, _), (3, _)]) (.cons rfl (.cons rfl (.cons rfl (.cons rfl .nil)))) ?_)
    refine Fw.seq fun _ hK3 => ?_
    refine Fw.seq fun _ hK4 => ?_
    refine Fw.region ?_
    refine Fw.s (Fw.val_move rfl) rfl ?_
    refine Fw.s (Fw.val_bin rfl rfl (Fw.b_nilP Try.underlying90)) rfl ?_
    refine Fw.s (Fw.val_move rfl) rfl ?_
    refine Fw.gF (d := 18) rfl rfl rfl rfl ?_
    refine Fw.gF (d := 18) rfl rfl rfl rfl ?_
    refine Fw.gF (d := 18) rfl rfl rfl rfl ?_
    refine Fw.gF (d := 18) rfl rfl rfl rfl ?_
    refine Fw.s (Fw.val_pickT rfl rfl) rfl ?_
    refine Fw.s (Fw.val_move rfl) rfl ?_
    refine Fw.gF (d := 24) rfl rfl rfl rfl ?_
    refine Fw.gF (d := 24) rfl rfl rfl rfl ?_
    refine Fw.gF (d := 24) rfl rfl rfl rfl ?_
    refine Fw.s (Fw.val_pickT rfl rfl) rfl ?_
    refine Fw.s (Fw.val_move rfl) rfl ?_
    refine Fw.gF (d := 29) rfl rfl rfl rfl ?_
    refine Fw.gF (d := 29) rfl rfl rfl rfl ?_
    refine Fw.gF (d := 29) rfl rfl rfl rfl ?_
    refine Fw.gF (d := 29) rfl rfl rfl rfl ?_
    refine Fw.s (Fw.val_pickT rfl rfl) rfl ?_
    refine Fw.nil ?_
    refine hK4 _ _ (Fw.FC.sub (f' := [(34, _), (10, _), (5, _), (2, _), (3, _)]) (.cons rfl (.cons rfl (.cons rfl (.cons rfl (.cons rfl .nil))))) ?_)
    refine Fw.condT rfl ?_
    refine Fw.seq fun _ hK5 => ?_
    refine Fw.region ?_
    refine Fw.s (Fw.val_assign rfl) rfl ?_
    refine Fw.s (Fw.val_assign rfl) rfl ?_
    refine Fw.nil ?_
    refine hK5 _ _ ?_
    refine Fw.ret ?_
    refine Fw.X_ret ?_
    refine Fw.ret_ [.tmp 8, .tmp 9] [_, _] Try.results20 (.tmp rfl (.tmp rfl .nil)) ?_
    have hE : Us.repE l s now e = 1 := by simp [Us.repE, hth]
    have hL : Us.repL l s now e = l := by unfold Us.repL; rw [hE]; rfl
    have hG : Us.repGone l s now e = false := by unfold Us.repGone; rw [hE]; rfl
    rw [hE, hL, hG]
    exact ⟨rfl, HR, HC⟩

end Go.Proofs.Ytodhpooddmeghaa
