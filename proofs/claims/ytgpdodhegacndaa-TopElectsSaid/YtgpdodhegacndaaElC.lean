/- TopElects: terms and nodes. -/
import Derived.Test.YtgpdodhegacndaaElB
namespace Go.Proofs.Ytgpdodhegacndaa
set_option linter.unusedSimpArgs false
set_option linter.unusedVariables false
open Go.RowKit

set_option maxRecDepth 100000 in
set_option maxHeartbeats 1000000 in
theorem validTerm_any (n : Int) (w : World) : Calls Try.prog 27 #[.int .i64 n] w fun e_ w' => ∃ b, e_ = .returned (.bool b) ∧ (b = true ↔ (1 ≤ n ∧ n ≤ 1099511627776)) ∧ w = w' := by
  refine Fw.calls Try.func27 rfl Try.ntmps27 rfl ?_
  refine Fw.seq fun _ hK1 => ?_
  refine Fw.region ?_
  refine Fw.s (Fw.val_assign rfl) rfl ?_
  refine Fw.nil ?_
  refine hK1 _ _ ?_
  refine Fw.seq fun _ hK2 => ?_
  refine Fw.region ?_
  refine Fw.s (Fw.val_move rfl) rfl ?_
  refine Fw.s2 (Fw.val_bin rfl rfl Fw.b_geq) rfl ?_ ?_
  · rintro h1
    refine Fw.s (Fw.val_move rfl) rfl ?_
    refine Fw.gT (d := 5) rfl rfl ?_
    refine Fw.s (Fw.val_move rfl) rfl ?_
    refine Fw.gT (d := 5) rfl rfl ?_
    refine Fw.s2 (Fw.val_bin rfl rfl Fw.b_leq) rfl ?_ ?_
    · rintro h2
      refine Fw.s (Fw.val_pickT rfl rfl) rfl ?_
      refine Fw.s (Fw.val_assign rfl) rfl ?_
      refine Fw.nil ?_
      refine hK2 _ _ (Fw.FC.sub (f' := [(2, _)]) (.cons rfl .nil) ?_)
      refine Fw.ret ?_
      refine Fw.ret_ [.tmp 2] [_] Try.results27 (.tmp rfl .nil) ?_
      exact ⟨true, rfl, ⟨fun _ => by omega, fun _ => rfl⟩, rfl⟩
    · rintro h2
      refine Fw.s (Fw.val_pickT rfl rfl) rfl ?_
      refine Fw.s (Fw.val_assign rfl) rfl ?_
      refine Fw.nil ?_
      refine hK2 _ _ (Fw.FC.sub (f' := [(2, _)]) (.cons rfl .nil) ?_)
      refine Fw.ret ?_
      refine Fw.ret_ [.tmp 2] [_] Try.results27 (.tmp rfl .nil) ?_
      exact ⟨false, rfl, ⟨fun h => Bool.noConfusion h, fun h => by omega⟩, rfl⟩
  · rintro h1
    refine Fw.s (Fw.val_move rfl) rfl ?_
    refine Fw.gF (d := 5) rfl rfl rfl rfl ?_
    refine Fw.gF (d := 5) rfl rfl rfl rfl ?_
    refine Fw.s (Fw.val_pickF rfl rfl) rfl ?_
    refine Fw.s (Fw.val_assign rfl) rfl ?_
    refine Fw.nil ?_
    refine hK2 _ _ (Fw.FC.sub (f' := [(2, _)]) (.cons rfl .nil) ?_)
    refine Fw.ret ?_
    refine Fw.ret_ [.tmp 2] [_] Try.results27 (.tmp rfl .nil) ?_
    exact ⟨false, rfl, ⟨fun h => Bool.noConfusion h, fun h => by omega⟩, rfl⟩

set_option maxRecDepth 100000 in
set_option maxHeartbeats 1000000 in
theorem validNode_any (n : Int) (w : World) : Calls Try.prog 28 #[.int .i64 n] w fun e_ w' => ∃ b, e_ = .returned (.bool b) ∧ (b = true ↔ (0 ≤ n ∧ n < 9)) ∧ w = w' := by
  refine Fw.calls Try.func28 rfl Try.ntmps28 rfl ?_
  refine Fw.seq fun _ hK1 => ?_
  refine Fw.region ?_
  refine Fw.s (Fw.val_assign rfl) rfl ?_
  refine Fw.nil ?_
  refine hK1 _ _ ?_
  refine Fw.seq fun _ hK2 => ?_
  refine Fw.region ?_
  refine Fw.s (Fw.val_move rfl) rfl ?_
  refine Fw.s2 (Fw.val_bin rfl rfl Fw.b_geq) rfl ?_ ?_
  · rintro h1
    refine Fw.s (Fw.val_move rfl) rfl ?_
    refine Fw.gT (d := 5) rfl rfl ?_
    refine Fw.s (Fw.val_move rfl) rfl ?_
    refine Fw.gT (d := 5) rfl rfl ?_
    refine Fw.s2 (Fw.val_bin rfl rfl Fw.b_lss) rfl ?_ ?_
    · rintro h2
      refine Fw.s (Fw.val_pickT rfl rfl) rfl ?_
      refine Fw.s (Fw.val_assign rfl) rfl ?_
      refine Fw.nil ?_
      refine hK2 _ _ (Fw.FC.sub (f' := [(2, _)]) (.cons rfl .nil) ?_)
      refine Fw.ret ?_
      refine Fw.ret_ [.tmp 2] [_] Try.results28 (.tmp rfl .nil) ?_
      exact ⟨true, rfl, ⟨fun _ => by omega, fun _ => rfl⟩, rfl⟩
    · rintro h2
      refine Fw.s (Fw.val_pickT rfl rfl) rfl ?_
      refine Fw.s (Fw.val_assign rfl) rfl ?_
      refine Fw.nil ?_
      refine hK2 _ _ (Fw.FC.sub (f' := [(2, _)]) (.cons rfl .nil) ?_)
      refine Fw.ret ?_
      refine Fw.ret_ [.tmp 2] [_] Try.results28 (.tmp rfl .nil) ?_
      exact ⟨false, rfl, ⟨fun h => Bool.noConfusion h, fun h => by omega⟩, rfl⟩
  · rintro h1
    refine Fw.s (Fw.val_move rfl) rfl ?_
    refine Fw.gF (d := 5) rfl rfl rfl rfl ?_
    refine Fw.gF (d := 5) rfl rfl rfl rfl ?_
    refine Fw.s (Fw.val_pickF rfl rfl) rfl ?_
    refine Fw.s (Fw.val_assign rfl) rfl ?_
    refine Fw.nil ?_
    refine hK2 _ _ (Fw.FC.sub (f' := [(2, _)]) (.cons rfl .nil) ?_)
    refine Fw.ret ?_
    refine Fw.ret_ [.tmp 2] [_] Try.results28 (.tmp rfl .nil) ?_
    exact ⟨false, rfl, ⟨fun h => Bool.noConfusion h, fun h => by omega⟩, rfl⟩

end Go.Proofs.Ytgpdodhegacndaa
