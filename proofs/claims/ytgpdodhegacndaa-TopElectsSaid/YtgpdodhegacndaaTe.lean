/- TopElects: a voter is opened. -/
import Derived.Test.YtgpdodhegacndaaEs
namespace Go.Proofs.Ytgpdodhegacndaa
set_option linter.unusedSimpArgs false
set_option linter.unusedVariables false
open Go.RowKit

set_option maxRecDepth 100000 in
set_option maxHeartbeats 1000000 in
theorem awakeE_any (w : World) : Calls Try.prog 4 #[] w fun e_ w' => e_ = .returned (.bool true) ∧ w = w' := by
  refine Fw.calls Try.func4 rfl Try.ntmps4 rfl ?_
  refine Fw.seq fun _ hK1 => ?_
  refine Fw.region ?_
  refine Fw.s (Fw.val_assign rfl) rfl ?_
  refine Fw.nil ?_
  refine hK1 _ _ ?_
  refine Fw.seq fun _ hK2 => ?_
  refine Fw.region ?_
  refine Fw.call cf15 rfl rfl (sum0_any _) ?_
  rintro e_ _ ⟨rfl, rfl⟩
  refine ⟨_, rfl, ?_⟩
  refine Fw.s (Fw.Val.T (Fw.val_bin rfl rfl Fw.b_neq) (by decide)) rfl ?_
  refine Fw.s (Fw.val_assign rfl) rfl ?_
  refine Fw.nil ?_
  refine hK2 _ _ ?_
  refine Fw.ret ?_
  refine Fw.ret_ [.tmp 0] [_] Try.results4 (.tmp rfl .nil) ?_
  exact ⟨rfl, rfl⟩

set_option maxRecDepth 100000 in
set_option maxHeartbeats 1000000 in
theorem openC_any (w : World) (o : Nat → Nat) (i pf gT gB : Nat) (cst csb : Array Value) (V : List (Int × Int)) (hi : i < 5) (HT : Blk w gT 31 cst) (hT : cst[i]? = some (.pointer (some ⟨pf, 0, none⟩))) (HBx : Blk w gB 33 csb) (hb5 : csb.size = 5) (hoT : o gT ≠ i) (hoB : o gB ≠ i) (h : Vr.FiS w o i pf false V) : Calls Try.prog 6 #[.int .i64 (i : Nat), .pointer (some ⟨gT, 0, none⟩), .pointer (some ⟨gB, 0, none⟩)] w fun e_ w' => ∃ r, e_ = .returned (.bool true) ∧ Vr.VAt w' (Vr.up o w.heap.size i) i pf r V ∧ Blk w' gB 33 (csb.setIfInBounds i (.pointer (some ⟨r, 0, none⟩))) ∧ Chg (fun x => o x = i ∨ x = gB) w w' := by
  have hBlt := HBx.lt
  refine Fw.calls Try.func6 rfl Try.ntmps6 rfl ?_
  refine Fw.seq fun _ hK1 => ?_
  refine Fw.region ?_
  refine Fw.s (Fw.val_assign rfl) rfl ?_
  refine Fw.nil ?_
  refine hK1 _ _ ?_
  refine Fw.seq fun _ hK2 => ?_
  refine Fw.region ?_
  refine Fw.s (Fw.val_move rfl) rfl ?_
  refine Fw.s (Fw.val_indexP (m := i) Try.underlying31 sz30 rfl rfl rfl hi (by rw [Nat.zero_add, Nat.mul_one])) rfl ?_
  refine Fw.ld sc30 rfl ((HT.cell i).trans hT) rfl ?_
  refine Fw.call cf7 rfl rfl (Vr.openV_any _ o i pf V h) ?_
  rintro e_ w1 ⟨p, rfl, HJ1, hc1⟩
  refine ⟨_, rfl, ?_⟩
  replace HBx := HBx.chg hc1 hoB
  refine Fw.s (Fw.val_move rfl) rfl ?_
  refine Fw.s (Fw.val_extract rfl rfl) rfl ?_
  refine Fw.s (Fw.val_extract rfl rfl) rfl ?_
  refine Fw.s (Fw.val_assign rfl) rfl ?_
  refine Fw.s (Fw.val_assign rfl) rfl ?_
  refine Fw.nil ?_
  refine hK2 _ _ (Fw.FC.sub (f' := [(6, _), (5, _), (0, _), (2, _)]) (.cons rfl (.cons rfl (.cons rfl (.cons rfl .nil)))) ?_)
  refine Fw.seq fun _ hK3 => ?_
  refine Fw.seq fun _ hK4 => ?_
  refine Fw.region ?_
  refine Fw.s (Fw.val_move rfl) rfl ?_
  refine Fw.s (Fw.Val.F (Fw.val_bin rfl rfl Fw.b_neq) (by decide)) rfl ?_
  refine Fw.s (Fw.val_move rfl) rfl ?_
  refine Fw.gT (d := 18) rfl rfl ?_
  refine Fw.s (Fw.val_move rfl) rfl ?_
  refine Fw.gT (d := 18) rfl rfl ?_
  refine Fw.s (Fw.val_bin rfl rfl (Fw.b_nilP Try.underlying34)) rfl ?_
  refine Fw.s (Fw.val_pickF rfl rfl) rfl ?_
  refine Fw.nil ?_
  refine hK4 _ _ ?_
  refine Fw.condF rfl ?_
  refine Fw.skip ?_
  refine hK3 _ _ (Fw.FC.sub (f' := [(5, _), (0, _), (2, _)]) (.cons rfl (.cons rfl (.cons rfl .nil))) ?_)
  refine Fw.seq fun _ hK5 => ?_
  refine Fw.region ?_
  refine Fw.s (Fw.val_move rfl) rfl ?_
  refine Fw.call cf8 rfl rfl (vopen_any _ _ i pf p V HJ1) ?_
  rintro e_ w2 ⟨r, rfl, HV, hb2⟩
  refine ⟨_, rfl, ?_⟩
  replace HBx := HBx.low hb2
  refine Fw.s (Fw.val_move rfl) rfl ?_
  refine Fw.s (Fw.val_extract rfl rfl) rfl ?_
  refine Fw.s (Fw.val_extract rfl rfl) rfl ?_
  refine Fw.s (Fw.val_assign rfl) rfl ?_
  refine Fw.s (Fw.val_assign rfl) rfl ?_
  refine Fw.nil ?_
  refine hK5 _ _ ?_
  refine Fw.seq fun _ hK6 => ?_
  refine Fw.region ?_
  refine Fw.s (Fw.val_move rfl) rfl ?_
  refine Fw.s (Fw.val_move rfl) rfl ?_
  refine Fw.s (Fw.val_indexP (m := i) Try.underlying33 sz32 rfl rfl rfl hi (by rw [Nat.zero_add, Nat.mul_one])) rfl ?_
  refine Fw.store sz32 rfl rfl HBx (by simp; omega) rfl rfl ?_
  intro w3 N_ hc
  have hcS := hc
  clear hc
  clear HBx
  have HBx := N_
  clear N_
  refine Fw.nil ?_
  refine hK6 _ _ (Fw.FC.sub (f' := [(8, _), (7, _)]) (.cons rfl (.cons rfl .nil)) ?_)
  refine Fw.seq fun _ hK7 => ?_
  refine Fw.region ?_
  refine Fw.s (Fw.val_move rfl) rfl ?_
  refine Fw.s (Fw.Val.T (Fw.val_bin rfl rfl Fw.b_eql) (by decide)) rfl ?_
  refine Fw.s (Fw.val_move rfl) rfl ?_
  refine Fw.gT (d := 32) rfl rfl ?_
  refine Fw.s (Fw.val_move rfl) rfl ?_
  refine Fw.gT (d := 32) rfl rfl ?_
  refine Fw.s (Fw.val_bin rfl rfl (Fw.b_nnilP Try.underlying32)) rfl ?_
  refine Fw.s (Fw.val_pickT rfl rfl) rfl ?_
  refine Fw.s (Fw.val_assign rfl) rfl ?_
  refine Fw.nil ?_
  refine hK7 _ _ (Fw.FC.sub (f' := [(4, _)]) (.cons rfl .nil) ?_)
  refine Fw.ret ?_
  refine Fw.ret_ [.tmp 4] [_] Try.results6 (.tmp rfl .nil) ?_
  rw [Vr.up_up hc1.size] at HV
  exact ⟨r, rfl, HV.keep hcS (fun x hx e => by rw [e, Vr.up_lt hBlt] at hx; exact hoB hx), HBx, ((hc1.mono (fun k _ e => .inl e)).trans (Chg.of_below hb2 (fun _ => False)) (fun _ _ h => h.elim)).trans hcS (fun k _ e => .inr e)⟩

end Go.Proofs.Ytgpdodhegacndaa
