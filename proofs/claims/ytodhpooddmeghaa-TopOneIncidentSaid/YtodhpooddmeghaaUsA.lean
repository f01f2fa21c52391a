/- Layer 27: the small functions of the program. -/
import Derived.Test.YtodhpooddmeghaaT09
import Derived.Test.YtodhpooddmeghaaUs
namespace Go.Proofs.Ytodhpooddmeghaa
set_option linter.unusedSimpArgs false
set_option linter.unusedVariables false
open Go.RowKit

set_option maxRecDepth 100000 in
set_option maxHeartbeats 1000000 in
theorem validNode_any (n : Int) (w : World) : Calls Try.prog 28 #[.int .i64 n] w fun e w' => e = .returned (.bool (Us.nodeB n)) ∧ w = w' := by
  refine Fw.calls Try.func28 rfl Try.ntmps28 rfl ?_
  refine Fw.seq fun _ hK1 => ?_
  refine Fw.region ?_
  refine Fw.s (Fw.val_assign rfl) rfl ?_
  refine Fw.nil ?_
  refine hK1 _ _ ?_
  refine Fw.seq fun _ hK2 => ?_
  refine Fw.region ?_
  refine Fw.s (Fw.val_move rfl) rfl ?_
  refine Fw.s2 (Fw.val_bin rfl rfl Fw.b_geq) rfl ?_ ?_
  rintro hq_
  refine Fw.s (Fw.val_move rfl) rfl ?_
  refine Fw.gT (d := 5) rfl rfl ?_
  refine Fw.s (Fw.val_move rfl) rfl ?_
  refine Fw.gT (d := 5) rfl rfl ?_
  refine Fw.s2 (Fw.val_bin rfl rfl Fw.b_lss) rfl ?_ ?_
  rintro hq_
  refine Fw.s (Fw.val_pickT rfl rfl) rfl ?_
  refine Fw.s (Fw.val_assign rfl) rfl ?_
  refine Fw.nil ?_
  refine hK2 _ _ (Fw.FC.sub (f' := [(2, _)]) (.cons rfl .nil) ?_)
  refine Fw.ret ?_
  refine Fw.ret_ [.tmp 2] [_] Try.results28 (.tmp rfl .nil) ?_
  rw [show Us.nodeB n = true from decide_eq_true (by omega)]
  exact ⟨rfl, rfl⟩
  rintro hq_
  refine Fw.s (Fw.val_pickT rfl rfl) rfl ?_
  refine Fw.s (Fw.val_assign rfl) rfl ?_
  refine Fw.nil ?_
  refine hK2 _ _ (Fw.FC.sub (f' := [(2, _)]) (.cons rfl .nil) ?_)
  refine Fw.ret ?_
  refine Fw.ret_ [.tmp 2] [_] Try.results28 (.tmp rfl .nil) ?_
  rw [show Us.nodeB n = false from decide_eq_false (by omega)]
  exact ⟨rfl, rfl⟩
  rintro hq_
  refine Fw.s (Fw.val_move rfl) rfl ?_
  refine Fw.gF (d := 5) rfl rfl rfl rfl ?_
  refine Fw.gF (d := 5) rfl rfl rfl rfl ?_
  refine Fw.s (Fw.val_pickF rfl rfl) rfl ?_
  refine Fw.s (Fw.val_assign rfl) rfl ?_
  refine Fw.nil ?_
  refine hK2 _ _ (Fw.FC.sub (f' := [(2, _)]) (.cons rfl .nil) ?_)
  refine Fw.ret ?_
  refine Fw.ret_ [.tmp 2] [_] Try.results28 (.tmp rfl .nil) ?_
  rw [show Us.nodeB n = false from decide_eq_false (by omega)]
  exact ⟨rfl, rfl⟩

set_option maxRecDepth 100000 in
set_option maxHeartbeats 1000000 in
theorem validTick_any (n : Int) (w : World) : Calls Try.prog 37 #[.int .i64 n] w fun e w' => e = .returned (.bool (Us.tickB n)) ∧ w = w' := by
  refine Fw.calls Try.func37 rfl Try.ntmps37 rfl ?_
  refine Fw.seq fun _ hK1 => ?_
  refine Fw.region ?_
  refine Fw.s (Fw.val_assign rfl) rfl ?_
  refine Fw.nil ?_
  refine hK1 _ _ ?_
  refine Fw.seq fun _ hK2 => ?_
  refine Fw.region ?_
  refine Fw.s (Fw.val_move rfl) rfl ?_
  refine Fw.s2 (Fw.val_bin rfl rfl Fw.b_geq) rfl ?_ ?_
  rintro hq_
  refine Fw.s (Fw.val_move rfl) rfl ?_
  refine Fw.gT (d := 5) rfl rfl ?_
  refine Fw.s (Fw.val_move rfl) rfl ?_
  refine Fw.gT (d := 5) rfl rfl ?_
  refine Fw.s2 (Fw.val_bin rfl rfl Fw.b_leq) rfl ?_ ?_
  rintro hq_
  refine Fw.s (Fw.val_pickT rfl rfl) rfl ?_
  refine Fw.s (Fw.val_assign rfl) rfl ?_
  refine Fw.nil ?_
  refine hK2 _ _ (Fw.FC.sub (f' := [(2, _)]) (.cons rfl .nil) ?_)
  refine Fw.ret ?_
  refine Fw.ret_ [.tmp 2] [_] Try.results37 (.tmp rfl .nil) ?_
  rw [show Us.tickB n = true from decide_eq_true (by omega)]
  exact ⟨rfl, rfl⟩
  rintro hq_
  refine Fw.s (Fw.val_pickT rfl rfl) rfl ?_
  refine Fw.s (Fw.val_assign rfl) rfl ?_
  refine Fw.nil ?_
  refine hK2 _ _ (Fw.FC.sub (f' := [(2, _)]) (.cons rfl .nil) ?_)
  refine Fw.ret ?_
  refine Fw.ret_ [.tmp 2] [_] Try.results37 (.tmp rfl .nil) ?_
  rw [show Us.tickB n = false from decide_eq_false (by omega)]
  exact ⟨rfl, rfl⟩
  rintro hq_
  refine Fw.s (Fw.val_move rfl) rfl ?_
  refine Fw.gF (d := 5) rfl rfl rfl rfl ?_
  refine Fw.gF (d := 5) rfl rfl rfl rfl ?_
  refine Fw.s (Fw.val_pickF rfl rfl) rfl ?_
  refine Fw.s (Fw.val_assign rfl) rfl ?_
  refine Fw.nil ?_
  refine hK2 _ _ (Fw.FC.sub (f' := [(2, _)]) (.cons rfl .nil) ?_)
  refine Fw.ret ?_
  refine Fw.ret_ [.tmp 2] [_] Try.results37 (.tmp rfl .nil) ?_
  rw [show Us.tickB n = false from decide_eq_false (by omega)]
  exact ⟨rfl, rfl⟩

set_option maxRecDepth 100000 in
set_option maxHeartbeats 1000000 in
theorem validIncident_any (n : Int) (w : World) : Calls Try.prog 33 #[.int .i64 n] w fun e w' => e = .returned (.bool (Us.incB n)) ∧ w = w' := by
  refine Fw.calls Try.func33 rfl Try.ntmps33 rfl ?_
  refine Fw.seq fun _ hK1 => ?_
  refine Fw.region ?_
  refine Fw.s (Fw.val_assign rfl) rfl ?_
  refine Fw.nil ?_
  refine hK1 _ _ ?_
  refine Fw.seq fun _ hK2 => ?_
  refine Fw.region ?_
  refine Fw.s (Fw.val_move rfl) rfl ?_
  refine Fw.s2 (Fw.val_bin rfl rfl Fw.b_geq) rfl ?_ ?_
  rintro hq_
  refine Fw.s (Fw.val_move rfl) rfl ?_
  refine Fw.gT (d := 5) rfl rfl ?_
  refine Fw.s (Fw.val_move rfl) rfl ?_
  refine Fw.gT (d := 5) rfl rfl ?_
  refine Fw.s2 (Fw.val_bin rfl rfl Fw.b_leq) rfl ?_ ?_
  rintro hq_
  refine Fw.s (Fw.val_pickT rfl rfl) rfl ?_
  refine Fw.s (Fw.val_assign rfl) rfl ?_
  refine Fw.nil ?_
  refine hK2 _ _ (Fw.FC.sub (f' := [(2, _)]) (.cons rfl .nil) ?_)
  refine Fw.ret ?_
  refine Fw.ret_ [.tmp 2] [_] Try.results33 (.tmp rfl .nil) ?_
  rw [show Us.incB n = true from decide_eq_true (by omega)]
  exact ⟨rfl, rfl⟩
  rintro hq_
  refine Fw.s (Fw.val_pickT rfl rfl) rfl ?_
  refine Fw.s (Fw.val_assign rfl) rfl ?_
  refine Fw.nil ?_
  refine hK2 _ _ (Fw.FC.sub (f' := [(2, _)]) (.cons rfl .nil) ?_)
  refine Fw.ret ?_
  refine Fw.ret_ [.tmp 2] [_] Try.results33 (.tmp rfl .nil) ?_
  rw [show Us.incB n = false from decide_eq_false (by omega)]
  exact ⟨rfl, rfl⟩
  rintro hq_
  refine Fw.s (Fw.val_move rfl) rfl ?_
  refine Fw.gF (d := 5) rfl rfl rfl rfl ?_
  refine Fw.gF (d := 5) rfl rfl rfl rfl ?_
  refine Fw.s (Fw.val_pickF rfl rfl) rfl ?_
  refine Fw.s (Fw.val_assign rfl) rfl ?_
  refine Fw.nil ?_
  refine hK2 _ _ (Fw.FC.sub (f' := [(2, _)]) (.cons rfl .nil) ?_)
  refine Fw.ret ?_
  refine Fw.ret_ [.tmp 2] [_] Try.results33 (.tmp rfl .nil) ?_
  rw [show Us.incB n = false from decide_eq_false (by omega)]
  exact ⟨rfl, rfl⟩

/-- a *unitstate.Registry at block p, its units in block g -/
def RegAt (w : World) (B p g c : Nat) (l : List Us.U) : Prop :=
  B ≤ p ∧ B ≤ g ∧ Blk w p 80 #[.slice (some ⟨g, 0, none⟩) l.length c] ∧ w.ownsRow B 83 15 (.slice (some ⟨g, 0, none⟩) l.length c) l.length (l.flatMap Us.U.cells)
theorem RegAt.low {w w' : World} {B p g c : Nat} {l : List Us.U} (h : RegAt w B p g c l) (hb : Below w.heap.size w w') : RegAt w' B p g c l := ⟨h.1, h.2.1, h.2.2.1.low hb, own_below h.2.2.2 hb (Nat.le_refl _)⟩
theorem RegAt.kp {ts : List TypeId} {w w' : World} {B p g c : Nat} {l : List Us.U} (h : RegAt w B p g c l) (hk : Fw.Kp ts w w') (h1 : ts.contains 80 = false) (h2 : ts.contains 83 = false) : RegAt w' B p g c l := ⟨h.1, h.2.1, h.2.2.1.kp hk h1, Fw.own_kp h.2.2.2 hk h2⟩
theorem RegAt.lt {w : World} {B p g c : Nat} {l : List Us.U} (h : RegAt w B p g c l) : p < w.heap.size ∧ g < w.heap.size ∧ p ≠ g := by
  have h1 := (h.2.2.2.lt g (by simp [Value.ownBlock])).2
  obtain ⟨cur, hb, _⟩ := Fw.own_at h.2.2.2
  exact ⟨h.2.2.1.lt, h1, Blk.ne_ h.2.2.1 hb (by decide)⟩
theorem RegAt.chg {S : Nat → Prop} {w w' : World} {B p g c : Nat} {l : List Us.U} (h : RegAt w B p g c l) (hc : Chg S w w') (hp : ¬ S p) (hg : ¬ S g) : RegAt w' B p g c l :=
  ⟨h.1, h.2.1, h.2.2.1.chg hc hp, own_to h.2.2.2 hc (fun k hk e => by
    have : g = k := by simpa using hk
    subst this; exact hg e)⟩
theorem RegAt.at {w : World} {B p g c : Nat} {l : List Us.U} (h : RegAt w B p g c l) {i : Nat} (hi : i < l.length) : Fw.At w B 83 15 g c Us.U.cells l i (Us.U.cells l[i]) := Fw.At.open_ Us.U.len hi h.2.2.2
theorem RegAt.of {w : World} {B p g c : Nat} {l : List Us.U} {i : Nat} (u : Us.U) (h1 : B ≤ p) (h2 : B ≤ g) (hp : Blk w p 80 #[.slice (some ⟨g, 0, none⟩) l.length c]) (h : Fw.At w B 83 15 g c Us.U.cells l i (Us.U.cells u)) : RegAt w B p g c (l.set i u) :=
  ⟨h1, h2, by rw [List.length_set]; exact hp, Fw.At.close u h⟩

set_option maxRecDepth 100000 in
set_option maxHeartbeats 1000000 in
theorem find_in (w : World) (B p g c : Nat) (l : List Us.U) (id : Int) (i : Nat) (hid : id = i) (hi : i < l.length) (h : RegAt w B p g c l) : Calls Try.prog 32 #[.pointer (some ⟨p, 0, none⟩), .int .i64 id] w fun e w' => e = .returned (.pointer (some ⟨g, i * 15, none⟩)) ∧ w = w' := by
  obtain ⟨hBp, hBg, HP, HO⟩ := h
  refine Fw.calls Try.func32 rfl Try.ntmps32 rfl ?_
  refine Fw.seq fun _ hK1 => ?_
  refine Fw.region ?_
  refine Fw.s (Fw.val_assign rfl) rfl ?_
  refine Fw.nil ?_
  refine hK1 _ _ ?_
  refine Fw.seq fun _ hK2 => ?_
  refine Fw.seq fun _ hK3 => ?_
  refine Fw.region ?_
  refine Fw.s (Fw.val_move rfl) rfl ?_
  refine Fw.s (Fw.Val.F (Fw.val_bin rfl rfl Fw.b_lss) (by omega)) rfl ?_
  refine Fw.s (Fw.val_move rfl) rfl ?_
  refine Fw.gT (d := 7) rfl rfl ?_
  refine Fw.s (Fw.val_move rfl) rfl ?_
  refine Fw.gT (d := 7) rfl rfl ?_
  refine Fw.s (Fw.val_move rfl) rfl ?_
  refine Fw.gT (d := 7) rfl rfl ?_
  refine Fw.s (Fw.val_nil rfl) rfl ?_
  refine Fw.gT (d := 7) rfl rfl ?_
  refine Fw.s (Fw.val_fieldAddr fl80_0 rfl rfl) rfl ?_
  refine Fw.gT (d := 7) rfl rfl ?_
  refine Fw.ld sc78 rfl (HP.cell 0) rfl ?_
  refine Fw.gT (d := 7) rfl rfl ?_
  refine Fw.s (Fw.val_len Try.underlying78 rfl) rfl ?_
  refine Fw.gT (d := 7) rfl rfl ?_
  refine Fw.s (Fw.Val.F (Fw.val_bin rfl rfl Fw.b_geq) (by omega)) rfl ?_
  refine Fw.s (Fw.val_pickF rfl rfl) rfl ?_
  refine Fw.nil ?_
  refine hK3 _ _ (Fw.FC.sub (f' := [(15, _), (0, _), (1, _)]) (.cons rfl (.cons rfl (.cons rfl .nil))) ?_)
  refine Fw.condF rfl ?_
  refine Fw.skip ?_
  refine hK2 _ _ ?_
  refine Fw.seq fun _ hK4 => ?_
  refine Fw.region ?_
  refine Fw.s (Fw.val_move rfl) rfl ?_
  refine Fw.s (Fw.val_nil rfl) rfl ?_
  refine Fw.s (Fw.val_fieldAddr fl80_0 rfl rfl) rfl ?_
  refine Fw.ld sc78 rfl (HP.cell 0) rfl ?_
  refine Fw.s (Fw.val_move rfl) rfl ?_
  refine Fw.s (Fw.val_indexR Try.underlying78 sz83 rfl rfl rfl hid hi (Fw.add0 g (i * 15))) rfl ?_
  refine Fw.s (Fw.val_assign rfl) rfl ?_
  refine Fw.nil ?_
  refine hK4 _ _ (Fw.FC.sub (f' := [(4, _)]) (.cons rfl .nil) ?_)
  refine Fw.ret ?_
  refine Fw.ret_ [.tmp 4] [_] Try.results32 (.tmp rfl .nil) ?_
  exact ⟨rfl, rfl⟩

set_option maxRecDepth 100000 in
set_option maxHeartbeats 1000000 in
theorem find_out (w : World) (B p g c : Nat) (l : List Us.U) (id : Int) (hid : Us.there l id = false) (h : RegAt w B p g c l) : Calls Try.prog 32 #[.pointer (some ⟨p, 0, none⟩), .int .i64 id] w fun e w' => e = .returned (.pointer none) ∧ w = w' := by
  obtain ⟨hBp, hBg, HP, HO⟩ := h
  have hid := of_decide_eq_false hid
  refine Fw.calls Try.func32 rfl Try.ntmps32 rfl ?_
  refine Fw.seq fun _ hK1 => ?_
  refine Fw.region ?_
  refine Fw.s (Fw.val_assign rfl) rfl ?_
  refine Fw.nil ?_
  refine hK1 _ _ ?_
  refine Fw.seq fun _ hK2 => ?_
  refine Fw.seq fun _ hK3 => ?_
  refine Fw.region ?_
  refine Fw.s (Fw.val_move rfl) rfl ?_
  refine Fw.s2 (Fw.val_bin rfl rfl Fw.b_lss) rfl ?_ ?_
  rintro hq_
  refine Fw.s (Fw.val_move rfl) rfl ?_
  refine Fw.gF (d := 7) rfl rfl rfl rfl ?_
  refine Fw.gF (d := 7) rfl rfl rfl rfl ?_
  refine Fw.gF (d := 7) rfl rfl rfl rfl ?_
  refine Fw.gF (d := 7) rfl rfl rfl rfl ?_
  refine Fw.gF (d := 7) rfl rfl rfl rfl ?_
  refine Fw.gF (d := 7) rfl rfl rfl rfl ?_
  refine Fw.gF (d := 7) rfl rfl rfl rfl ?_
  refine Fw.s (Fw.val_pickT rfl rfl) rfl ?_
  refine Fw.nil ?_
  refine hK3 _ _ (Fw.FC.sub (f' := [(15, _), (0, _), (1, _)]) (.cons rfl (.cons rfl (.cons rfl .nil))) ?_)
  refine Fw.condT rfl ?_
  refine Fw.seq fun _ hK5 => ?_
  refine Fw.region ?_
  refine Fw.s (Fw.val_assign rfl) rfl ?_
  refine Fw.nil ?_
  refine hK5 _ _ ?_
  refine Fw.ret ?_
  refine Fw.X_ret ?_
  refine Fw.ret_ [.tmp 4] [_] Try.results32 (.tmp rfl .nil) ?_
  exact ⟨rfl, rfl⟩
  rintro hq_
  refine Fw.s (Fw.val_move rfl) rfl ?_
  refine Fw.gT (d := 7) rfl rfl ?_
  refine Fw.s (Fw.val_move rfl) rfl ?_
  refine Fw.gT (d := 7) rfl rfl ?_
  refine Fw.s (Fw.val_move rfl) rfl ?_
  refine Fw.gT (d := 7) rfl rfl ?_
  refine Fw.s (Fw.val_nil rfl) rfl ?_
  refine Fw.gT (d := 7) rfl rfl ?_
  refine Fw.s (Fw.val_fieldAddr fl80_0 rfl rfl) rfl ?_
  refine Fw.gT (d := 7) rfl rfl ?_
  refine Fw.ld sc78 rfl (HP.cell 0) rfl ?_
  refine Fw.gT (d := 7) rfl rfl ?_
  refine Fw.s (Fw.val_len Try.underlying78 rfl) rfl ?_
  refine Fw.gT (d := 7) rfl rfl ?_
  refine Fw.s (Fw.Val.T (Fw.val_bin rfl rfl Fw.b_geq) (by omega)) rfl ?_
  refine Fw.s (Fw.val_pickF rfl rfl) rfl ?_
  refine Fw.nil ?_
  refine hK3 _ _ (Fw.FC.sub (f' := [(15, _), (0, _), (1, _)]) (.cons rfl (.cons rfl (.cons rfl .nil))) ?_)
  refine Fw.condT rfl ?_
  refine Fw.seq fun _ hK6 => ?_
  refine Fw.region ?_
  refine Fw.s (Fw.val_assign rfl) rfl ?_
  refine Fw.nil ?_
  refine hK6 _ _ ?_
  refine Fw.ret ?_
  refine Fw.X_ret ?_
  refine Fw.ret_ [.tmp 4] [_] Try.results32 (.tmp rfl .nil) ?_
  exact ⟨rfl, rfl⟩

set_option maxRecDepth 100000 in
set_option maxHeartbeats 1000000 in
theorem validEpoch_any (w : World) (b o : Nat) (u : Us.U) (e : Int) (HE : Rd w (some ⟨b, o, none⟩) (Us.U.cells u)) : Calls Try.prog 34 #[.pointer (some ⟨b, o, none⟩), .int .i64 e] w fun e_ w' => e_ = .returned (.bool (Us.epB u e)) ∧ w = w' := by
  refine Fw.calls Try.func34 rfl Try.ntmps34 rfl ?_
  refine Fw.seq fun _ hK1 => ?_
  refine Fw.region ?_
  refine Fw.s (Fw.val_assign rfl) rfl ?_
  refine Fw.nil ?_
  refine hK1 _ _ ?_
  refine Fw.seq fun _ hK2 => ?_
  refine Fw.region ?_
  refine Fw.s (Fw.val_move rfl) rfl ?_
  refine Fw.s (Fw.val_move rfl) rfl ?_
  refine Fw.s (Fw.val_nil rfl) rfl ?_
  refine Fw.s (Fw.val_fieldAddr fl83_0 rfl rfl) rfl ?_
  refine Fw.s (Fw.val_fieldAddr fl69_8 rfl rfl) rfl ?_
  refine Fw.ld sc2 rfl (Fw.rdCell HE 8 rfl) rfl ?_
  refine Fw.s2 (Fw.val_bin rfl rfl Fw.b_gtr) rfl ?_ ?_
  rintro hq_
  refine Fw.s (Fw.val_move rfl) rfl ?_
  refine Fw.gT (d := 12) rfl rfl ?_
  refine Fw.s (Fw.val_move rfl) rfl ?_
  refine Fw.gT (d := 12) rfl rfl ?_
  refine Fw.s2 (Fw.val_bin rfl rfl Fw.b_leq) rfl ?_ ?_
  rintro hq_
  refine Fw.s (Fw.val_pickT rfl rfl) rfl ?_
  refine Fw.s (Fw.val_assign rfl) rfl ?_
  refine Fw.nil ?_
  refine hK2 _ _ (Fw.FC.sub (f' := [(4, _)]) (.cons rfl .nil) ?_)
  refine Fw.ret ?_
  refine Fw.ret_ [.tmp 4] [_] Try.results34 (.tmp rfl .nil) ?_
  rw [show Us.epB u e = true from decide_eq_true (by omega)]
  exact ⟨rfl, rfl⟩
  rintro hq_
  refine Fw.s (Fw.val_pickT rfl rfl) rfl ?_
  refine Fw.s (Fw.val_assign rfl) rfl ?_
  refine Fw.nil ?_
  refine hK2 _ _ (Fw.FC.sub (f' := [(4, _)]) (.cons rfl .nil) ?_)
  refine Fw.ret ?_
  refine Fw.ret_ [.tmp 4] [_] Try.results34 (.tmp rfl .nil) ?_
  rw [show Us.epB u e = false from decide_eq_false (by omega)]
  exact ⟨rfl, rfl⟩
  rintro hq_
  refine Fw.s (Fw.val_move rfl) rfl ?_
  refine Fw.gF (d := 12) rfl rfl rfl rfl ?_
  refine Fw.gF (d := 12) rfl rfl rfl rfl ?_
  refine Fw.s (Fw.val_pickF rfl rfl) rfl ?_
  refine Fw.s (Fw.val_assign rfl) rfl ?_
  refine Fw.nil ?_
  refine hK2 _ _ (Fw.FC.sub (f' := [(4, _)]) (.cons rfl .nil) ?_)
  refine Fw.ret ?_
  refine Fw.ret_ [.tmp 4] [_] Try.results34 (.tmp rfl .nil) ?_
  rw [show Us.epB u e = false from decide_eq_false (by omega)]
  exact ⟨rfl, rfl⟩

set_option maxRecDepth 100000 in
set_option maxHeartbeats 1000000 in
theorem issue_any (w : World) (B g c i : Nat) (l : List Us.U) (u : Us.U) (e k n m : Int) (HAt : Fw.At w B 83 15 g c Us.U.cells l i (Us.U.cells u)) : Calls Try.prog 35 #[.pointer (some ⟨g, i * 15, none⟩), .int .i64 e, .int .i64 k, .int .i64 n, .int .i64 m] w fun e_ w' => e_ = .returned (.tuple #[]) ∧ Fw.At w' B 83 15 g c Us.U.cells l i (Us.U.cells (Us.issue u e k n m)) ∧ Chg (· = g) w w' := by
  refine Fw.calls Try.func35 rfl Try.ntmps35 rfl ?_
  have HC := Chg.refl (· = g) w
  refine Fw.seq fun _ hK1 => ?_
  refine Fw.region ?_
  refine Fw.s (Fw.val_move rfl) rfl ?_
  refine Fw.s (Fw.val_move rfl) rfl ?_
  refine Fw.s (Fw.val_nil rfl) rfl ?_
  refine Fw.s (Fw.val_fieldAddr fl83_0 rfl rfl) rfl ?_
  refine Fw.s (Fw.val_fieldAddr fl69_8 rfl rfl) rfl ?_
  refine Fw.storeI Us.U.len sz2 rfl rfl HAt rfl rfl rfl ?_
  intro w1 N_ hc
  replace HC := HC.trans hc (fun k hk_ e => by first | exact e | (left; exact e) | (right; exact e) | (exfalso; omega))
  clear hc
  clear HAt
  have HAt := N_
  clear N_
  refine Fw.nil ?_
  refine hK1 _ _ ?_
  refine Fw.region ?_
  refine Fw.s (Fw.val_move rfl) rfl ?_
  refine Fw.s (Fw.val_move rfl) rfl ?_
  refine Fw.s (Fw.val_nil rfl) rfl ?_
  refine Fw.s (Fw.val_fieldAddr fl83_0 rfl rfl) rfl ?_
  refine Fw.s (Fw.val_fieldAddr fl69_0 rfl rfl) rfl ?_
  refine Fw.ld sc3 rfl (HAt.cell Us.U.len 0 rfl) rfl ?_
  refine Fw.s (Fw.val_move rfl) rfl ?_
  refine Fw.s (Fw.val_move rfl) rfl ?_
  refine Fw.s (Fw.val_move rfl) rfl ?_
  refine Fw.s (Fw.val_move rfl) rfl ?_
  refine Fw.s (Fw.val_build (ps := [(0, _), (1, _), (2, _), (3, _), (4, _)]) rfl (bu50_0_1_2_3_4 _ _ _ _ _)) rfl ?_
  refine Fw.s (Fw.val_nil rfl) rfl ?_
  refine Fw.s (Fw.val_fieldAddr fl83_1 rfl rfl) rfl ?_
  refine Fw.storeIA Us.U.len sz50 rfl rfl rfl HAt rfl (by exact Fw.oneCells rfl) ?_
  intro w2 N_ hc
  replace HC := HC.trans hc (fun k hk_ e => by first | exact e | (left; exact e) | (right; exact e) | (exfalso; omega))
  clear hc
  clear HAt
  have HAt := N_
  clear N_
  refine Fw.nil ?_
  refine Fw.end_ [] [] Try.results35 .nil ?_
  exact ⟨rfl, HAt, HC⟩

set_option maxRecDepth 100000 in
set_option maxHeartbeats 1000000 in
theorem release_any (w : World) (B g c i : Nat) (l : List Us.U) (u : Us.U) (HAt : Fw.At w B 83 15 g c Us.U.cells l i (Us.U.cells u)) : Calls Try.prog 36 #[.pointer (some ⟨g, i * 15, none⟩)] w fun e_ w' => e_ = .returned (.bool (decide (u.inc ≠ 0))) ∧ Fw.At w' B 83 15 g c Us.U.cells l i (Us.U.cells { u with inc := 0 }) ∧ Chg (· = g) w w' := by
  refine Fw.calls Try.func36 rfl Try.ntmps36 rfl ?_
  have HC := Chg.refl (· = g) w
  refine Fw.seq fun _ hK1 => ?_
  refine Fw.region ?_
  refine Fw.s (Fw.val_assign rfl) rfl ?_
  refine Fw.nil ?_
  refine hK1 _ _ ?_
  refine Fw.seq fun _ hK2 => ?_
  refine Fw.region ?_
  refine Fw.s (Fw.val_move rfl) rfl ?_
  refine Fw.s (Fw.val_nil rfl) rfl ?_
  refine Fw.s (Fw.val_fieldAddr fl83_0 rfl rfl) rfl ?_
  refine Fw.s (Fw.val_fieldAddr fl69_7 rfl rfl) rfl ?_
  refine Fw.ld sc2 rfl (HAt.cell Us.U.len 7 rfl) rfl ?_
  refine Fw.s (Fw.val_bin rfl rfl Fw.b_neq) rfl ?_
  refine Fw.s (Fw.val_assign rfl) rfl ?_
  refine Fw.nil ?_
  refine hK2 _ _ (Fw.FC.sub (f' := [(3, _), (0, _)]) (.cons rfl (.cons rfl .nil)) ?_)
  refine Fw.seq fun _ hK3 => ?_
  refine Fw.region ?_
  refine Fw.s (Fw.val_move rfl) rfl ?_
  refine Fw.s (Fw.val_nil rfl) rfl ?_
  refine Fw.s (Fw.val_fieldAddr fl83_0 rfl rfl) rfl ?_
  refine Fw.s (Fw.val_fieldAddr fl69_7 rfl rfl) rfl ?_
  refine Fw.storeI Us.U.len sz2 rfl rfl HAt rfl rfl rfl ?_
  intro w1 N_ hc
  replace HC := HC.trans hc (fun k hk_ e => by first | exact e | (left; exact e) | (right; exact e) | (exfalso; omega))
  clear hc
  clear HAt
  have HAt := N_
  clear N_
  refine Fw.nil ?_
  refine hK3 _ _ ?_
  refine Fw.seq fun _ hK4 => ?_
  refine Fw.region ?_
  refine Fw.s (Fw.val_move rfl) rfl ?_
  refine Fw.s (Fw.val_assign rfl) rfl ?_
  refine Fw.nil ?_
  refine hK4 _ _ (Fw.FC.sub (f' := [(2, _)]) (.cons rfl .nil) ?_)
  refine Fw.ret ?_
  refine Fw.ret_ [.tmp 2] [_] Try.results36 (.tmp rfl .nil) ?_
  exact ⟨rfl, HAt, HC⟩

set_option maxRecDepth 100000 in
set_option maxHeartbeats 1000000 in
theorem validReport_any (w : World) (b o : Nat) (u : Us.U) (s : Us.S) (HE : Rd w (some ⟨b, o, none⟩) (Us.U.cells u)) : Calls Try.prog 50 #[.pointer (some ⟨b, o, none⟩), .agg (Us.S.cells s).toArray] w fun e_ w' => e_ = .returned (.bool (Us.repB u s)) ∧ Below w.heap.size w w' := by
  refine Fw.calls Try.func50 rfl Try.ntmps50 rfl ?_
  have HB := Below.refl (w.heap.size) w
  refine Fw.seq fun _ hK1 => ?_
  refine Fw.region ?_
  refine Fw.box rfl rfl ?_
  intro w1 gS egS HS hb
  have lgS : w.heap.size ≤ gS := by have := HB.size; omega
  replace HE := HE.low hb
  replace HB := HB.trans (hb.mono HB.size)
  clear hb
  clear egS
  refine Fw.s (Fw.val_assign rfl) rfl ?_
  refine Fw.nil ?_
  refine hK1 _ _ ?_
  refine Fw.seq fun _ hK2 => ?_
  refine Fw.seq fun _ hK3 => ?_
  refine Fw.region ?_
  refine Fw.s (Fw.val_fieldAddr fl60_2 rfl rfl) rfl ?_
  refine Fw.ld sc3 rfl (HS.cell 2) rfl ?_
  refine Fw.nil ?_
  refine hK3 _ _ ?_
  refine Fw.block ?_
  refine Fw.seq fun _ hK4 => ?_
  refine Fw.seq fun _ hK5 => ?_
  refine Fw.region ?_
  refine Fw.s2 (Fw.val_bin rfl rfl Fw.b_eql) rfl ?_ ?_
  rintro hs1
  refine Fw.s (Fw.val_assign rfl) rfl ?_
  refine Fw.nil ?_
  refine hK5 _ _ ?_
  refine Fw.condT rfl ?_
  refine Fw.skip ?_
  refine hK4 _ _ ?_
  refine Fw.condT rfl ?_
  refine Fw.seq fun _ hK7 => ?_
  refine Fw.regionQ (by kernel_rfl) (by kernel_rfl) ?_
  refine Fw.q (Fw.val_fieldAddr fl60_1 rfl rfl) rfl ?_
  refine Fw.ldQ sc2 rfl (HS.cell 1) rfl ?_
  refine Fw.q2 (Fw.val_bin rfl rfl Fw.b_geq) rfl ?_ ?_
  rintro hq1
  refine Fw.q (Fw.val_move rfl) rfl ?_
  refine Fw.gTQ (d := 16) rfl rfl ?_
  refine Fw.q (Fw.val_fieldAddr fl60_3 rfl rfl) rfl ?_
  refine Fw.gTQ (d := 16) rfl rfl ?_
  refine Fw.ldQ sc3 rfl (HS.cell 3) rfl ?_
  refine Fw.gTQ (d := 16) rfl rfl ?_
  refine Fw.callQ cf28 rfl rfl (fun w_ hb_ => validNode_any _ _) (fun _ _ _ h => ⟨h.1, h.2 ▸ Below.refl _ _⟩) ?_
  refine Fw.b2Q ?_ ?_
  rintro hq2
  refine Fw.q (Fw.val_pickT rfl rfl) rfl ?_
  refine Fw.q (Fw.val_move rfl) rfl ?_
  refine Fw.gTQ (d := 21) rfl rfl ?_
  refine Fw.q (Fw.val_fieldAddr fl60_4 rfl rfl) rfl ?_
  refine Fw.gTQ (d := 21) rfl rfl ?_
  refine Fw.ldQ sc2 rfl (HS.cell 4) rfl ?_
  refine Fw.gTQ (d := 21) rfl rfl ?_
  refine Fw.q2 (Fw.val_bin rfl rfl Fw.b_geq) rfl ?_ ?_
  rintro hq3
  refine Fw.q (Fw.val_pickT rfl rfl) rfl ?_
  refine Fw.q (Fw.val_move rfl) rfl ?_
  refine Fw.gTQ (d := 26) rfl rfl ?_
  refine Fw.q (Fw.val_fieldAddr fl60_4 rfl rfl) rfl ?_
  refine Fw.gTQ (d := 26) rfl rfl ?_
  refine Fw.ldQ sc2 rfl (HS.cell 4) rfl ?_
  refine Fw.gTQ (d := 26) rfl rfl ?_
  refine Fw.q (Fw.val_move rfl) rfl ?_
  refine Fw.gTQ (d := 26) rfl rfl ?_
  refine Fw.q (Fw.val_nil rfl) rfl ?_
  refine Fw.gTQ (d := 26) rfl rfl ?_
  refine Fw.q (Fw.val_fieldAddr fl83_0 rfl rfl) rfl ?_
  refine Fw.gTQ (d := 26) rfl rfl ?_
  refine Fw.q (Fw.val_fieldAddr fl69_8 rfl rfl) rfl ?_
  refine Fw.gTQ (d := 26) rfl rfl ?_
  refine Fw.ldQ sc2 rfl (Fw.rdCell HE 8 rfl) rfl ?_
  refine Fw.gTQ (d := 26) rfl rfl ?_
  refine Fw.q2 (Fw.val_bin rfl rfl Fw.b_leq) rfl ?_ ?_
  rintro hq4
  refine Fw.q (Fw.val_pickT rfl rfl) rfl ?_
  refine Fw.q (Fw.val_assign rfl) rfl ?_
  refine Fw.nilQ ?_
  intro w2 hb
  replace HE := HE.low hb
  replace HS := HS.low hb
  replace HB := HB.trans (hb.mono HB.size)
  clear hb
  refine hK7 _ _ (Fw.FC.sub (f' := [(4, _)]) (.cons rfl .nil) ?_)
  refine Fw.ret ?_
  refine Fw.X_blockR ?_
  refine Fw.X_ret ?_
  refine Fw.ret_ [.tmp 4] [_] Try.results50 (.tmp rfl .nil) ?_
  have h1 : Us.says s.s = true := decide_eq_true (by omega)
  have h2 : decide (1 ≤ s.q) = true := decide_eq_true (by omega)
  have h4 : decide (0 ≤ s.e ∧ s.e ≤ u.ep) = true := decide_eq_true (by omega)
  rw [show Us.repB u s = true by unfold Us.repB; rw [h1, h2, hq2, h4]; rfl]
  exact ⟨rfl, HB⟩
  rintro hq4
  refine Fw.q (Fw.val_pickT rfl rfl) rfl ?_
  refine Fw.q (Fw.val_assign rfl) rfl ?_
  refine Fw.nilQ ?_
  intro w3 hb
  replace HE := HE.low hb
  replace HS := HS.low hb
  replace HB := HB.trans (hb.mono HB.size)
  clear hb
  refine hK7 _ _ (Fw.FC.sub (f' := [(4, _)]) (.cons rfl .nil) ?_)
  refine Fw.ret ?_
  refine Fw.X_blockR ?_
  refine Fw.X_ret ?_
  refine Fw.ret_ [.tmp 4] [_] Try.results50 (.tmp rfl .nil) ?_
  have h4 : decide (0 ≤ s.e ∧ s.e ≤ u.ep) = false := decide_eq_false (by omega)
  rw [show Us.repB u s = false by unfold Us.repB; rw [h4]; simp]
  exact ⟨rfl, HB⟩
  rintro hq3
  refine Fw.q (Fw.val_pickT rfl rfl) rfl ?_
  refine Fw.q (Fw.val_move rfl) rfl ?_
  refine Fw.gFQ (d := 26) rfl rfl rfl rfl ?_
  refine Fw.gFQ (d := 26) rfl rfl rfl rfl ?_
  refine Fw.gFQ (d := 26) rfl rfl rfl rfl ?_
  refine Fw.gFQ (d := 26) rfl rfl rfl rfl ?_
  refine Fw.gFQ (d := 26) rfl rfl rfl rfl ?_
  refine Fw.gFQ (d := 26) rfl rfl rfl rfl ?_
  refine Fw.gFQ (d := 26) rfl rfl rfl rfl ?_
  refine Fw.gFQ (d := 26) rfl rfl rfl rfl ?_
  refine Fw.q (Fw.val_pickF rfl rfl) rfl ?_
  refine Fw.q (Fw.val_assign rfl) rfl ?_
  refine Fw.nilQ ?_
  intro w4 hb
  replace HE := HE.low hb
  replace HS := HS.low hb
  replace HB := HB.trans (hb.mono HB.size)
  clear hb
  refine hK7 _ _ (Fw.FC.sub (f' := [(4, _)]) (.cons rfl .nil) ?_)
  refine Fw.ret ?_
  refine Fw.X_blockR ?_
  refine Fw.X_ret ?_
  refine Fw.ret_ [.tmp 4] [_] Try.results50 (.tmp rfl .nil) ?_
  have h4 : decide (0 ≤ s.e ∧ s.e ≤ u.ep) = false := decide_eq_false (by omega)
  rw [show Us.repB u s = false by unfold Us.repB; rw [h4]; simp]
  exact ⟨rfl, HB⟩
  rintro hq2
  refine Fw.q (Fw.val_pickT rfl rfl) rfl ?_
  refine Fw.q (Fw.val_move rfl) rfl ?_
  refine Fw.gFQ (d := 21) rfl rfl rfl rfl ?_
  refine Fw.gFQ (d := 21) rfl rfl rfl rfl ?_
  refine Fw.gFQ (d := 21) rfl rfl rfl rfl ?_
  refine Fw.q (Fw.val_pickF rfl rfl) rfl ?_
  refine Fw.q (Fw.val_move rfl) rfl ?_
  refine Fw.gFQ (d := 26) rfl rfl rfl rfl ?_
  refine Fw.gFQ (d := 26) rfl rfl rfl rfl ?_
  refine Fw.gFQ (d := 26) rfl rfl rfl rfl ?_
  refine Fw.gFQ (d := 26) rfl rfl rfl rfl ?_
  refine Fw.gFQ (d := 26) rfl rfl rfl rfl ?_
  refine Fw.gFQ (d := 26) rfl rfl rfl rfl ?_
  refine Fw.gFQ (d := 26) rfl rfl rfl rfl ?_
  refine Fw.gFQ (d := 26) rfl rfl rfl rfl ?_
  refine Fw.q (Fw.val_pickF rfl rfl) rfl ?_
  refine Fw.q (Fw.val_assign rfl) rfl ?_
  refine Fw.nilQ ?_
  intro w5 hb
  replace HE := HE.low hb
  replace HS := HS.low hb
  replace HB := HB.trans (hb.mono HB.size)
  clear hb
  refine hK7 _ _ (Fw.FC.sub (f' := [(4, _)]) (.cons rfl .nil) ?_)
  refine Fw.ret ?_
  refine Fw.X_blockR ?_
  refine Fw.X_ret ?_
  refine Fw.ret_ [.tmp 4] [_] Try.results50 (.tmp rfl .nil) ?_
  rw [show Us.repB u s = false by unfold Us.repB; rw [hq2]; simp]
  exact ⟨rfl, HB⟩
  rintro hq1
  refine Fw.q (Fw.val_move rfl) rfl ?_
  refine Fw.gFQ (d := 16) rfl rfl rfl rfl ?_
  refine Fw.gFQ (d := 16) rfl rfl rfl rfl ?_
  refine Fw.gFQ (d := 16) rfl rfl rfl rfl ?_
  refine Fw.q (Fw.val_pickF rfl rfl) rfl ?_
  refine Fw.q (Fw.val_move rfl) rfl ?_
  refine Fw.gFQ (d := 21) rfl rfl rfl rfl ?_
  refine Fw.gFQ (d := 21) rfl rfl rfl rfl ?_
  refine Fw.gFQ (d := 21) rfl rfl rfl rfl ?_
  refine Fw.q (Fw.val_pickF rfl rfl) rfl ?_
  refine Fw.q (Fw.val_move rfl) rfl ?_
  refine Fw.gFQ (d := 26) rfl rfl rfl rfl ?_
  refine Fw.gFQ (d := 26) rfl rfl rfl rfl ?_
  refine Fw.gFQ (d := 26) rfl rfl rfl rfl ?_
  refine Fw.gFQ (d := 26) rfl rfl rfl rfl ?_
  refine Fw.gFQ (d := 26) rfl rfl rfl rfl ?_
  refine Fw.gFQ (d := 26) rfl rfl rfl rfl ?_
  refine Fw.gFQ (d := 26) rfl rfl rfl rfl ?_
  refine Fw.gFQ (d := 26) rfl rfl rfl rfl ?_
  refine Fw.q (Fw.val_pickF rfl rfl) rfl ?_
  refine Fw.q (Fw.val_assign rfl) rfl ?_
  refine Fw.nilQ ?_
  intro w6 hb
  replace HE := HE.low hb
  replace HS := HS.low hb
  replace HB := HB.trans (hb.mono HB.size)
  clear hb
  refine hK7 _ _ (Fw.FC.sub (f' := [(4, _)]) (.cons rfl .nil) ?_)
  refine Fw.ret ?_
  refine Fw.X_blockR ?_
  refine Fw.X_ret ?_
  refine Fw.ret_ [.tmp 4] [_] Try.results50 (.tmp rfl .nil) ?_
  have h2 : decide (1 ≤ s.q) = false := decide_eq_false (by omega)
  rw [show Us.repB u s = false by unfold Us.repB; rw [h2]; simp]
  exact ⟨rfl, HB⟩
  rintro hs1
  refine Fw.s (Fw.val_assign rfl) rfl ?_
  refine Fw.nil ?_
  refine hK5 _ _ ?_
  refine Fw.condF rfl ?_
  refine Fw.seq fun _ hK11 => ?_
  refine Fw.region ?_
  refine Fw.s2 (Fw.val_bin rfl rfl Fw.b_eql) rfl ?_ ?_
  rintro hs3
  refine Fw.s (Fw.val_assign rfl) rfl ?_
  refine Fw.nil ?_
  refine hK11 _ _ ?_
  refine Fw.condT rfl ?_
  refine Fw.skip ?_
  refine hK4 _ _ (Fw.FC.sub (f' := [(7, _), (3, _), (0, _)]) (.cons rfl (.cons rfl (.cons rfl .nil))) ?_)
  refine Fw.condT rfl ?_
  refine Fw.seq fun _ hK13 => ?_
  refine Fw.regionQ (by kernel_rfl) (by kernel_rfl) ?_
  refine Fw.q (Fw.val_fieldAddr fl60_1 rfl rfl) rfl ?_
  refine Fw.ldQ sc2 rfl (HS.cell 1) rfl ?_
  refine Fw.q2 (Fw.val_bin rfl rfl Fw.b_geq) rfl ?_ ?_
  rintro hq1
  refine Fw.q (Fw.val_move rfl) rfl ?_
  refine Fw.gTQ (d := 16) rfl rfl ?_
  refine Fw.q (Fw.val_fieldAddr fl60_3 rfl rfl) rfl ?_
  refine Fw.gTQ (d := 16) rfl rfl ?_
  refine Fw.ldQ sc3 rfl (HS.cell 3) rfl ?_
  refine Fw.gTQ (d := 16) rfl rfl ?_
  refine Fw.callQ cf28 rfl rfl (fun w_ hb_ => validNode_any _ _) (fun _ _ _ h => ⟨h.1, h.2 ▸ Below.refl _ _⟩) ?_
  refine Fw.b2Q ?_ ?_
  rintro hq2
  refine Fw.q (Fw.val_pickT rfl rfl) rfl ?_
  refine Fw.q (Fw.val_move rfl) rfl ?_
  refine Fw.gTQ (d := 21) rfl rfl ?_
  refine Fw.q (Fw.val_fieldAddr fl60_4 rfl rfl) rfl ?_
  refine Fw.gTQ (d := 21) rfl rfl ?_
  refine Fw.ldQ sc2 rfl (HS.cell 4) rfl ?_
  refine Fw.gTQ (d := 21) rfl rfl ?_
  refine Fw.q2 (Fw.val_bin rfl rfl Fw.b_geq) rfl ?_ ?_
  rintro hq3
  refine Fw.q (Fw.val_pickT rfl rfl) rfl ?_
  refine Fw.q (Fw.val_move rfl) rfl ?_
  refine Fw.gTQ (d := 26) rfl rfl ?_
  refine Fw.q (Fw.val_fieldAddr fl60_4 rfl rfl) rfl ?_
  refine Fw.gTQ (d := 26) rfl rfl ?_
  refine Fw.ldQ sc2 rfl (HS.cell 4) rfl ?_
  refine Fw.gTQ (d := 26) rfl rfl ?_
  refine Fw.q (Fw.val_move rfl) rfl ?_
  refine Fw.gTQ (d := 26) rfl rfl ?_
  refine Fw.q (Fw.val_nil rfl) rfl ?_
  refine Fw.gTQ (d := 26) rfl rfl ?_
  refine Fw.q (Fw.val_fieldAddr fl83_0 rfl rfl) rfl ?_
  refine Fw.gTQ (d := 26) rfl rfl ?_
  refine Fw.q (Fw.val_fieldAddr fl69_8 rfl rfl) rfl ?_
  refine Fw.gTQ (d := 26) rfl rfl ?_
  refine Fw.ldQ sc2 rfl (Fw.rdCell HE 8 rfl) rfl ?_
  refine Fw.gTQ (d := 26) rfl rfl ?_
  refine Fw.q2 (Fw.val_bin rfl rfl Fw.b_leq) rfl ?_ ?_
  rintro hq4
  refine Fw.q (Fw.val_pickT rfl rfl) rfl ?_
  refine Fw.q (Fw.val_assign rfl) rfl ?_
  refine Fw.nilQ ?_
  intro w7 hb
  replace HE := HE.low hb
  replace HS := HS.low hb
  replace HB := HB.trans (hb.mono HB.size)
  clear hb
  refine hK13 _ _ (Fw.FC.sub (f' := [(4, _)]) (.cons rfl .nil) ?_)
  refine Fw.ret ?_
  refine Fw.X_blockR ?_
  refine Fw.X_ret ?_
  refine Fw.ret_ [.tmp 4] [_] Try.results50 (.tmp rfl .nil) ?_
  have h1 : Us.says s.s = true := decide_eq_true (by omega)
  have h2 : decide (1 ≤ s.q) = true := decide_eq_true (by omega)
  have h4 : decide (0 ≤ s.e ∧ s.e ≤ u.ep) = true := decide_eq_true (by omega)
  rw [show Us.repB u s = true by unfold Us.repB; rw [h1, h2, hq2, h4]; rfl]
  exact ⟨rfl, HB⟩
  rintro hq4
  refine Fw.q (Fw.val_pickT rfl rfl) rfl ?_
  refine Fw.q (Fw.val_assign rfl) rfl ?_
  refine Fw.nilQ ?_
  intro w8 hb
  replace HE := HE.low hb
  replace HS := HS.low hb
  replace HB := HB.trans (hb.mono HB.size)
  clear hb
  refine hK13 _ _ (Fw.FC.sub (f' := [(4, _)]) (.cons rfl .nil) ?_)
  refine Fw.ret ?_
  refine Fw.X_blockR ?_
  refine Fw.X_ret ?_
  refine Fw.ret_ [.tmp 4] [_] Try.results50 (.tmp rfl .nil) ?_
  have h4 : decide (0 ≤ s.e ∧ s.e ≤ u.ep) = false := decide_eq_false (by omega)
  rw [show Us.repB u s = false by unfold Us.repB; rw [h4]; simp]
  exact ⟨rfl, HB⟩
  rintro hq3
  refine Fw.q (Fw.val_pickT rfl rfl) rfl ?_
  refine Fw.q (Fw.val_move rfl) rfl ?_
  refine Fw.gFQ (d := 26) rfl rfl rfl rfl ?_
  refine Fw.gFQ (d := 26) rfl rfl rfl rfl ?_
  refine Fw.gFQ (d := 26) rfl rfl rfl rfl ?_
  refine Fw.gFQ (d := 26) rfl rfl rfl rfl ?_
  refine Fw.gFQ (d := 26) rfl rfl rfl rfl ?_
  refine Fw.gFQ (d := 26) rfl rfl rfl rfl ?_
  refine Fw.gFQ (d := 26) rfl rfl rfl rfl ?_
  refine Fw.gFQ (d := 26) rfl rfl rfl rfl ?_
  refine Fw.q (Fw.val_pickF rfl rfl) rfl ?_
  refine Fw.q (Fw.val_assign rfl) rfl ?_
  refine Fw.nilQ ?_
  intro w9 hb
  replace HE := HE.low hb
  replace HS := HS.low hb
  replace HB := HB.trans (hb.mono HB.size)
  clear hb
  refine hK13 _ _ (Fw.FC.sub (f' := [(4, _)]) (.cons rfl .nil) ?_)
  refine Fw.ret ?_
  refine Fw.X_blockR ?_
  refine Fw.X_ret ?_
  refine Fw.ret_ [.tmp 4] [_] Try.results50 (.tmp rfl .nil) ?_
  have h4 : decide (0 ≤ s.e ∧ s.e ≤ u.ep) = false := decide_eq_false (by omega)
  rw [show Us.repB u s = false by unfold Us.repB; rw [h4]; simp]
  exact ⟨rfl, HB⟩
  rintro hq2
  refine Fw.q (Fw.val_pickT rfl rfl) rfl ?_
  refine Fw.q (Fw.val_move rfl) rfl ?_
  refine Fw.gFQ (d := 21) rfl rfl rfl rfl ?_
  refine Fw.gFQ (d := 21) rfl rfl rfl rfl ?_
  refine Fw.gFQ (d := 21) rfl rfl rfl rfl ?_
  refine Fw.q (Fw.val_pickF rfl rfl) rfl ?_
  refine Fw.q (Fw.val_move rfl) rfl ?_
  refine Fw.gFQ (d := 26) rfl rfl rfl rfl ?_
  refine Fw.gFQ (d := 26) rfl rfl rfl rfl ?_
  refine Fw.gFQ (d := 26) rfl rfl rfl rfl ?_
  refine Fw.gFQ (d := 26) rfl rfl rfl rfl ?_
  refine Fw.gFQ (d := 26) rfl rfl rfl rfl ?_
  refine Fw.gFQ (d := 26) rfl rfl rfl rfl ?_
  refine Fw.gFQ (d := 26) rfl rfl rfl rfl ?_
  refine Fw.gFQ (d := 26) rfl rfl rfl rfl ?_
  refine Fw.q (Fw.val_pickF rfl rfl) rfl ?_
  refine Fw.q (Fw.val_assign rfl) rfl ?_
  refine Fw.nilQ ?_
  intro w10 hb
  replace HE := HE.low hb
  replace HS := HS.low hb
  replace HB := HB.trans (hb.mono HB.size)
  clear hb
  refine hK13 _ _ (Fw.FC.sub (f' := [(4, _)]) (.cons rfl .nil) ?_)
  refine Fw.ret ?_
  refine Fw.X_blockR ?_
  refine Fw.X_ret ?_
  refine Fw.ret_ [.tmp 4] [_] Try.results50 (.tmp rfl .nil) ?_
  rw [show Us.repB u s = false by unfold Us.repB; rw [hq2]; simp]
  exact ⟨rfl, HB⟩
  rintro hq1
  refine Fw.q (Fw.val_move rfl) rfl ?_
  refine Fw.gFQ (d := 16) rfl rfl rfl rfl ?_
  refine Fw.gFQ (d := 16) rfl rfl rfl rfl ?_
  refine Fw.gFQ (d := 16) rfl rfl rfl rfl ?_
  refine Fw.q (Fw.val_pickF rfl rfl) rfl ?_
  refine Fw.q (Fw.val_move rfl) rfl ?_
  refine Fw.gFQ (d := 21) rfl rfl rfl rfl ?_
  refine Fw.gFQ (d := 21) rfl rfl rfl rfl ?_
  refine Fw.gFQ (d := 21) rfl rfl rfl rfl ?_
  refine Fw.q (Fw.val_pickF rfl rfl) rfl ?_
  refine Fw.q (Fw.val_move rfl) rfl ?_
  refine Fw.gFQ (d := 26) rfl rfl rfl rfl ?_
  refine Fw.gFQ (d := 26) rfl rfl rfl rfl ?_
  refine Fw.gFQ (d := 26) rfl rfl rfl rfl ?_
  refine Fw.gFQ (d := 26) rfl rfl rfl rfl ?_
  refine Fw.gFQ (d := 26) rfl rfl rfl rfl ?_
  refine Fw.gFQ (d := 26) rfl rfl rfl rfl ?_
  refine Fw.gFQ (d := 26) rfl rfl rfl rfl ?_
  refine Fw.gFQ (d := 26) rfl rfl rfl rfl ?_
  refine Fw.q (Fw.val_pickF rfl rfl) rfl ?_
  refine Fw.q (Fw.val_assign rfl) rfl ?_
  refine Fw.nilQ ?_
  intro w11 hb
  replace HE := HE.low hb
  replace HS := HS.low hb
  replace HB := HB.trans (hb.mono HB.size)
  clear hb
  refine hK13 _ _ (Fw.FC.sub (f' := [(4, _)]) (.cons rfl .nil) ?_)
  refine Fw.ret ?_
  refine Fw.X_blockR ?_
  refine Fw.X_ret ?_
  refine Fw.ret_ [.tmp 4] [_] Try.results50 (.tmp rfl .nil) ?_
  have h2 : decide (1 ≤ s.q) = false := decide_eq_false (by omega)
  rw [show Us.repB u s = false by unfold Us.repB; rw [h2]; simp]
  exact ⟨rfl, HB⟩
  rintro hs3
  refine Fw.s (Fw.val_assign rfl) rfl ?_
  refine Fw.nil ?_
  refine hK11 _ _ ?_
  refine Fw.condF rfl ?_
  refine Fw.seq fun _ hK17 => ?_
  refine Fw.region ?_
  refine Fw.s2 (Fw.val_bin rfl rfl Fw.b_eql) rfl ?_ ?_
  rintro hs4
  refine Fw.s (Fw.val_assign rfl) rfl ?_
  refine Fw.nil ?_
  refine hK17 _ _ (Fw.FC.sub (f' := [(7, _), (6, _), (3, _), (0, _)]) (.cons rfl (.cons rfl (.cons rfl (.cons rfl .nil)))) ?_)
  refine Fw.condT rfl ?_
  refine Fw.skip ?_
  refine hK4 _ _ ?_
  refine Fw.condT rfl ?_
  refine Fw.seq fun _ hK19 => ?_
  refine Fw.regionQ (by kernel_rfl) (by kernel_rfl) ?_
  refine Fw.q (Fw.val_fieldAddr fl60_1 rfl rfl) rfl ?_
  refine Fw.ldQ sc2 rfl (HS.cell 1) rfl ?_
  refine Fw.q2 (Fw.val_bin rfl rfl Fw.b_geq) rfl ?_ ?_
  rintro hq1
  refine Fw.q (Fw.val_move rfl) rfl ?_
  refine Fw.gTQ (d := 16) rfl rfl ?_
  refine Fw.q (Fw.val_fieldAddr fl60_3 rfl rfl) rfl ?_
  refine Fw.gTQ (d := 16) rfl rfl ?_
  refine Fw.ldQ sc3 rfl (HS.cell 3) rfl ?_
  refine Fw.gTQ (d := 16) rfl rfl ?_
  refine Fw.callQ cf28 rfl rfl (fun w_ hb_ => validNode_any _ _) (fun _ _ _ h => ⟨h.1, h.2 ▸ Below.refl _ _⟩) ?_
  refine Fw.b2Q ?_ ?_
  rintro hq2
  refine Fw.q (Fw.val_pickT rfl rfl) rfl ?_
  refine Fw.q (Fw.val_move rfl) rfl ?_
  refine Fw.gTQ (d := 21) rfl rfl ?_
  refine Fw.q (Fw.val_fieldAddr fl60_4 rfl rfl) rfl ?_
  refine Fw.gTQ (d := 21) rfl rfl ?_
  refine Fw.ldQ sc2 rfl (HS.cell 4) rfl ?_
  refine Fw.gTQ (d := 21) rfl rfl ?_
  refine Fw.q2 (Fw.val_bin rfl rfl Fw.b_geq) rfl ?_ ?_
  rintro hq3
  refine Fw.q (Fw.val_pickT rfl rfl) rfl ?_
  refine Fw.q (Fw.val_move rfl) rfl ?_
  refine Fw.gTQ (d := 26) rfl rfl ?_
  refine Fw.q (Fw.val_fieldAddr fl60_4 rfl rfl) rfl ?_
  refine Fw.gTQ (d := 26) rfl rfl ?_
  refine Fw.ldQ sc2 rfl (HS.cell 4) rfl ?_
  refine Fw.gTQ (d := 26) rfl rfl ?_
  refine Fw.q (Fw.val_move rfl) rfl ?_
  refine Fw.gTQ (d := 26) rfl rfl ?_
  refine Fw.q (Fw.val_nil rfl) rfl ?_
  refine Fw.gTQ (d := 26) rfl rfl ?_
  refine Fw.q (Fw.val_fieldAddr fl83_0 rfl rfl) rfl ?_
  refine Fw.gTQ (d := 26) rfl rfl ?_
  refine Fw.q (Fw.val_fieldAddr fl69_8 rfl rfl) rfl ?_
  refine Fw.gTQ (d := 26) rfl rfl ?_
  refine Fw.ldQ sc2 rfl (Fw.rdCell HE 8 rfl) rfl ?_
  refine Fw.gTQ (d := 26) rfl rfl ?_
  refine Fw.q2 (Fw.val_bin rfl rfl Fw.b_leq) rfl ?_ ?_
  rintro hq4
  refine Fw.q (Fw.val_pickT rfl rfl) rfl ?_
  refine Fw.q (Fw.val_assign rfl) rfl ?_
  refine Fw.nilQ ?_
  intro w12 hb
  replace HE := HE.low hb
  replace HS := HS.low hb
  replace HB := HB.trans (hb.mono HB.size)
  clear hb
  refine hK19 _ _ (Fw.FC.sub (f' := [(4, _)]) (.cons rfl .nil) ?_)
  refine Fw.ret ?_
  refine Fw.X_blockR ?_
  refine Fw.X_ret ?_
  refine Fw.ret_ [.tmp 4] [_] Try.results50 (.tmp rfl .nil) ?_
  have h1 : Us.says s.s = true := decide_eq_true (by omega)
  have h2 : decide (1 ≤ s.q) = true := decide_eq_true (by omega)
  have h4 : decide (0 ≤ s.e ∧ s.e ≤ u.ep) = true := decide_eq_true (by omega)
  rw [show Us.repB u s = true by unfold Us.repB; rw [h1, h2, hq2, h4]; rfl]
  exact ⟨rfl, HB⟩
  rintro hq4
  refine Fw.q (Fw.val_pickT rfl rfl) rfl ?_
  refine Fw.q (Fw.val_assign rfl) rfl ?_
  refine Fw.nilQ ?_
  intro w13 hb
  replace HE := HE.low hb
  replace HS := HS.low hb
  replace HB := HB.trans (hb.mono HB.size)
  clear hb
  refine hK19 _ _ (Fw.FC.sub (f' := [(4, _)]) (.cons rfl .nil) ?_)
  refine Fw.ret ?_
  refine Fw.X_blockR ?_
  refine Fw.X_ret ?_
  refine Fw.ret_ [.tmp 4] [_] Try.results50 (.tmp rfl .nil) ?_
  have h4 : decide (0 ≤ s.e ∧ s.e ≤ u.ep) = false := decide_eq_false (by omega)
  rw [show Us.repB u s = false by unfold Us.repB; rw [h4]; simp]
  exact ⟨rfl, HB⟩
  rintro hq3
  refine Fw.q (Fw.val_pickT rfl rfl) rfl ?_
  refine Fw.q (Fw.val_move rfl) rfl ?_
  refine Fw.gFQ (d := 26) rfl rfl rfl rfl ?_
  refine Fw.gFQ (d := 26) rfl rfl rfl rfl ?_
  refine Fw.gFQ (d := 26) rfl rfl rfl rfl ?_
  refine Fw.gFQ (d := 26) rfl rfl rfl rfl ?_
  refine Fw.gFQ (d := 26) rfl rfl rfl rfl ?_
  refine Fw.gFQ (d := 26) rfl rfl rfl rfl ?_
  refine Fw.gFQ (d := 26) rfl rfl rfl rfl ?_
  refine Fw.gFQ (d := 26) rfl rfl rfl rfl ?_
  refine Fw.q (Fw.val_pickF rfl rfl) rfl ?_
  refine Fw.q (Fw.val_assign rfl) rfl ?_
  refine Fw.nilQ ?_
  intro w14 hb
  replace HE := HE.low hb
  replace HS := HS.low hb
  replace HB := HB.trans (hb.mono HB.size)
  clear hb
  refine hK19 _ _ (Fw.FC.sub (f' := [(4, _)]) (.cons rfl .nil) ?_)
  refine Fw.ret ?_
  refine Fw.X_blockR ?_
  refine Fw.X_ret ?_
  refine Fw.ret_ [.tmp 4] [_] Try.results50 (.tmp rfl .nil) ?_
  have h4 : decide (0 ≤ s.e ∧ s.e ≤ u.ep) = false := decide_eq_false (by omega)
  rw [show Us.repB u s = false by unfold Us.repB; rw [h4]; simp]
  exact ⟨rfl, HB⟩
  rintro hq2
  refine Fw.q (Fw.val_pickT rfl rfl) rfl ?_
  refine Fw.q (Fw.val_move rfl) rfl ?_
  refine Fw.gFQ (d := 21) rfl rfl rfl rfl ?_
  refine Fw.gFQ (d := 21) rfl rfl rfl rfl ?_
  refine Fw.gFQ (d := 21) rfl rfl rfl rfl ?_
  refine Fw.q (Fw.val_pickF rfl rfl) rfl ?_
  refine Fw.q (Fw.val_move rfl) rfl ?_
  refine Fw.gFQ (d := 26) rfl rfl rfl rfl ?_
  refine Fw.gFQ (d := 26) rfl rfl rfl rfl ?_
  refine Fw.gFQ (d := 26) rfl rfl rfl rfl ?_
  refine Fw.gFQ (d := 26) rfl rfl rfl rfl ?_
  refine Fw.gFQ (d := 26) rfl rfl rfl rfl ?_
  refine Fw.gFQ (d := 26) rfl rfl rfl rfl ?_
  refine Fw.gFQ (d := 26) rfl rfl rfl rfl ?_
  refine Fw.gFQ (d := 26) rfl rfl rfl rfl ?_
  refine Fw.q (Fw.val_pickF rfl rfl) rfl ?_
  refine Fw.q (Fw.val_assign rfl) rfl ?_
  refine Fw.nilQ ?_
  intro w15 hb
  replace HE := HE.low hb
  replace HS := HS.low hb
  replace HB := HB.trans (hb.mono HB.size)
  clear hb
  refine hK19 _ _ (Fw.FC.sub (f' := [(4, _)]) (.cons rfl .nil) ?_)
  refine Fw.ret ?_
  refine Fw.X_blockR ?_
  refine Fw.X_ret ?_
  refine Fw.ret_ [.tmp 4] [_] Try.results50 (.tmp rfl .nil) ?_
  rw [show Us.repB u s = false by unfold Us.repB; rw [hq2]; simp]
  exact ⟨rfl, HB⟩
  rintro hq1
  refine Fw.q (Fw.val_move rfl) rfl ?_
  refine Fw.gFQ (d := 16) rfl rfl rfl rfl ?_
  refine Fw.gFQ (d := 16) rfl rfl rfl rfl ?_
  refine Fw.gFQ (d := 16) rfl rfl rfl rfl ?_
  refine Fw.q (Fw.val_pickF rfl rfl) rfl ?_
  refine Fw.q (Fw.val_move rfl) rfl ?_
  refine Fw.gFQ (d := 21) rfl rfl rfl rfl ?_
  refine Fw.gFQ (d := 21) rfl rfl rfl rfl ?_
  refine Fw.gFQ (d := 21) rfl rfl rfl rfl ?_
  refine Fw.q (Fw.val_pickF rfl rfl) rfl ?_
  refine Fw.q (Fw.val_move rfl) rfl ?_
  refine Fw.gFQ (d := 26) rfl rfl rfl rfl ?_
  refine Fw.gFQ (d := 26) rfl rfl rfl rfl ?_
  refine Fw.gFQ (d := 26) rfl rfl rfl rfl ?_
  refine Fw.gFQ (d := 26) rfl rfl rfl rfl ?_
  refine Fw.gFQ (d := 26) rfl rfl rfl rfl ?_
  refine Fw.gFQ (d := 26) rfl rfl rfl rfl ?_
  refine Fw.gFQ (d := 26) rfl rfl rfl rfl ?_
  refine Fw.gFQ (d := 26) rfl rfl rfl rfl ?_
  refine Fw.q (Fw.val_pickF rfl rfl) rfl ?_
  refine Fw.q (Fw.val_assign rfl) rfl ?_
  refine Fw.nilQ ?_
  intro w16 hb
  replace HE := HE.low hb
  replace HS := HS.low hb
  replace HB := HB.trans (hb.mono HB.size)
  clear hb
  refine hK19 _ _ (Fw.FC.sub (f' := [(4, _)]) (.cons rfl .nil) ?_)
  refine Fw.ret ?_
  refine Fw.X_blockR ?_
  refine Fw.X_ret ?_
  refine Fw.ret_ [.tmp 4] [_] Try.results50 (.tmp rfl .nil) ?_
  have h2 : decide (1 ≤ s.q) = false := decide_eq_false (by omega)
  rw [show Us.repB u s = false by unfold Us.repB; rw [h2]; simp]
  exact ⟨rfl, HB⟩
  rintro hs4
  refine Fw.s (Fw.val_assign rfl) rfl ?_
  refine Fw.nil ?_
  refine hK17 _ _ (Fw.FC.sub (f' := [(7, _), (6, _), (3, _), (0, _)]) (.cons rfl (.cons rfl (.cons rfl (.cons rfl .nil)))) ?_)
  refine Fw.condF rfl ?_
  refine Fw.seq fun _ hK23 => ?_
  refine Fw.region ?_
  refine Fw.s2 (Fw.val_bin rfl rfl Fw.b_eql) rfl ?_ ?_
  rintro hs5
  refine Fw.s (Fw.val_assign rfl) rfl ?_
  refine Fw.nil ?_
  refine hK23 _ _ ?_
  refine Fw.condT rfl ?_
  refine Fw.skip ?_
  refine hK4 _ _ ?_
  refine Fw.condT rfl ?_
  refine Fw.seq fun _ hK25 => ?_
  refine Fw.regionQ (by kernel_rfl) (by kernel_rfl) ?_
  refine Fw.q (Fw.val_fieldAddr fl60_1 rfl rfl) rfl ?_
  refine Fw.ldQ sc2 rfl (HS.cell 1) rfl ?_
  refine Fw.q2 (Fw.val_bin rfl rfl Fw.b_geq) rfl ?_ ?_
  rintro hq1
  refine Fw.q (Fw.val_move rfl) rfl ?_
  refine Fw.gTQ (d := 16) rfl rfl ?_
  refine Fw.q (Fw.val_fieldAddr fl60_3 rfl rfl) rfl ?_
  refine Fw.gTQ (d := 16) rfl rfl ?_
  refine Fw.ldQ sc3 rfl (HS.cell 3) rfl ?_
  refine Fw.gTQ (d := 16) rfl rfl ?_
  refine Fw.callQ cf28 rfl rfl (fun w_ hb_ => validNode_any _ _) (fun _ _ _ h => ⟨h.1, h.2 ▸ Below.refl _ _⟩) ?_
  refine Fw.b2Q ?_ ?_
  rintro hq2
  refine Fw.q (Fw.val_pickT rfl rfl) rfl ?_
  refine Fw.q (Fw.val_move rfl) rfl ?_
  refine Fw.gTQ (d := 21) rfl rfl ?_
  refine Fw.q (Fw.val_fieldAddr fl60_4 rfl rfl) rfl ?_
  refine Fw.gTQ (d := 21) rfl rfl ?_
  refine Fw.ldQ sc2 rfl (HS.cell 4) rfl ?_
  refine Fw.gTQ (d := 21) rfl rfl ?_
  refine Fw.q2 (Fw.val_bin rfl rfl Fw.b_geq) rfl ?_ ?_
  rintro hq3
  refine Fw.q (Fw.val_pickT rfl rfl) rfl ?_
  refine Fw.q (Fw.val_move rfl) rfl ?_
  refine Fw.gTQ (d := 26) rfl rfl ?_
  refine Fw.q (Fw.val_fieldAddr fl60_4 rfl rfl) rfl ?_
  refine Fw.gTQ (d := 26) rfl rfl ?_
  refine Fw.ldQ sc2 rfl (HS.cell 4) rfl ?_
  refine Fw.gTQ (d := 26) rfl rfl ?_
  refine Fw.q (Fw.val_move rfl) rfl ?_
  refine Fw.gTQ (d := 26) rfl rfl ?_
  refine Fw.q (Fw.val_nil rfl) rfl ?_
  refine Fw.gTQ (d := 26) rfl rfl ?_
  refine Fw.q (Fw.val_fieldAddr fl83_0 rfl rfl) rfl ?_
  refine Fw.gTQ (d := 26) rfl rfl ?_
  refine Fw.q (Fw.val_fieldAddr fl69_8 rfl rfl) rfl ?_
  refine Fw.gTQ (d := 26) rfl rfl ?_
  refine Fw.ldQ sc2 rfl (Fw.rdCell HE 8 rfl) rfl ?_
  refine Fw.gTQ (d := 26) rfl rfl ?_
  refine Fw.q2 (Fw.val_bin rfl rfl Fw.b_leq) rfl ?_ ?_
  rintro hq4
  refine Fw.q (Fw.val_pickT rfl rfl) rfl ?_
  refine Fw.q (Fw.val_assign rfl) rfl ?_
  refine Fw.nilQ ?_
  intro w17 hb
  replace HE := HE.low hb
  replace HS := HS.low hb
  replace HB := HB.trans (hb.mono HB.size)
  clear hb
  refine hK25 _ _ (Fw.FC.sub (f' := [(4, _)]) (.cons rfl .nil) ?_)
  refine Fw.ret ?_
  refine Fw.X_blockR ?_
  refine Fw.X_ret ?_
  refine Fw.ret_ [.tmp 4] [_] Try.results50 (.tmp rfl .nil) ?_
  have h1 : Us.says s.s = true := decide_eq_true (by omega)
  have h2 : decide (1 ≤ s.q) = true := decide_eq_true (by omega)
  have h4 : decide (0 ≤ s.e ∧ s.e ≤ u.ep) = true := decide_eq_true (by omega)
  rw [show Us.repB u s = true by unfold Us.repB; rw [h1, h2, hq2, h4]; rfl]
  exact ⟨rfl, HB⟩
  rintro hq4
  refine Fw.q (Fw.val_pickT rfl rfl) rfl ?_
  refine Fw.q (Fw.val_assign rfl) rfl ?_
  refine Fw.nilQ ?_
  intro w18 hb
  replace HE := HE.low hb
  replace HS := HS.low hb
  replace HB := HB.trans (hb.mono HB.size)
  clear hb
  refine hK25 _ _ (Fw.FC.sub (f' := [(4, _)]) (.cons rfl .nil) ?_)
  refine Fw.ret ?_
  refine Fw.X_blockR ?_
  refine Fw.X_ret ?_
  refine Fw.ret_ [.tmp 4] [_] Try.results50 (.tmp rfl .nil) ?_
  have h4 : decide (0 ≤ s.e ∧ s.e ≤ u.ep) = false := decide_eq_false (by omega)
  rw [show Us.repB u s = false by unfold Us.repB; rw [h4]; simp]
  exact ⟨rfl, HB⟩
  rintro hq3
  refine Fw.q (Fw.val_pickT rfl rfl) rfl ?_
  refine Fw.q (Fw.val_move rfl) rfl ?_
  refine Fw.gFQ (d := 26) rfl rfl rfl rfl ?_
  refine Fw.gFQ (d := 26) rfl rfl rfl rfl ?_
  refine Fw.gFQ (d := 26) rfl rfl rfl rfl ?_
  refine Fw.gFQ (d := 26) rfl rfl rfl rfl ?_
  refine Fw.gFQ (d := 26) rfl rfl rfl rfl ?_
  refine Fw.gFQ (d := 26) rfl rfl rfl rfl ?_
  refine Fw.gFQ (d := 26) rfl rfl rfl rfl ?_
  refine Fw.gFQ (d := 26) rfl rfl rfl rfl ?_
  refine Fw.q (Fw.val_pickF rfl rfl) rfl ?_
  refine Fw.q (Fw.val_assign rfl) rfl ?_
  refine Fw.nilQ ?_
  intro w19 hb
  replace HE := HE.low hb
  replace HS := HS.low hb
  replace HB := HB.trans (hb.mono HB.size)
  clear hb
  refine hK25 _ _ (Fw.FC.sub (f' := [(4, _)]) (.cons rfl .nil) ?_)
  refine Fw.ret ?_
  refine Fw.X_blockR ?_
  refine Fw.X_ret ?_
  refine Fw.ret_ [.tmp 4] [_] Try.results50 (.tmp rfl .nil) ?_
  have h4 : decide (0 ≤ s.e ∧ s.e ≤ u.ep) = false := decide_eq_false (by omega)
  rw [show Us.repB u s = false by unfold Us.repB; rw [h4]; simp]
  exact ⟨rfl, HB⟩
  rintro hq2
  refine Fw.q (Fw.val_pickT rfl rfl) rfl ?_
  refine Fw.q (Fw.val_move rfl) rfl ?_
  refine Fw.gFQ (d := 21) rfl rfl rfl rfl ?_
  refine Fw.gFQ (d := 21) rfl rfl rfl rfl ?_
  refine Fw.gFQ (d := 21) rfl rfl rfl rfl ?_
  refine Fw.q (Fw.val_pickF rfl rfl) rfl ?_
  refine Fw.q (Fw.val_move rfl) rfl ?_
  refine Fw.gFQ (d := 26) rfl rfl rfl rfl ?_
  refine Fw.gFQ (d := 26) rfl rfl rfl rfl ?_
  refine Fw.gFQ (d := 26) rfl rfl rfl rfl ?_
  refine Fw.gFQ (d := 26) rfl rfl rfl rfl ?_
  refine Fw.gFQ (d := 26) rfl rfl rfl rfl ?_
  refine Fw.gFQ (d := 26) rfl rfl rfl rfl ?_
  refine Fw.gFQ (d := 26) rfl rfl rfl rfl ?_
  refine Fw.gFQ (d := 26) rfl rfl rfl rfl ?_
  refine Fw.q (Fw.val_pickF rfl rfl) rfl ?_
  refine Fw.q (Fw.val_assign rfl) rfl ?_
  refine Fw.nilQ ?_
  intro w20 hb
  replace HE := HE.low hb
  replace HS := HS.low hb
  replace HB := HB.trans (hb.mono HB.size)
  clear hb
  refine hK25 _ _ (Fw.FC.sub (f' := [(4, _)]) (.cons rfl .nil) ?_)
  refine Fw.ret ?_
  refine Fw.X_blockR ?_
  refine Fw.X_ret ?_
  refine Fw.ret_ [.tmp 4] [_] Try.results50 (.tmp rfl .nil) ?_
  rw [show Us.repB u s = false by unfold Us.repB; rw [hq2]; simp]
  exact ⟨rfl, HB⟩
  rintro hq1
  refine Fw.q (Fw.val_move rfl) rfl ?_
  refine Fw.gFQ (d := 16) rfl rfl rfl rfl ?_
  refine Fw.gFQ (d := 16) rfl rfl rfl rfl ?_
  refine Fw.gFQ (d := 16) rfl rfl rfl rfl ?_
  refine Fw.q (Fw.val_pickF rfl rfl) rfl ?_
  refine Fw.q (Fw.val_move rfl) rfl ?_
  refine Fw.gFQ (d := 21) rfl rfl rfl rfl ?_
  refine Fw.gFQ (d := 21) rfl rfl rfl rfl ?_
  refine Fw.gFQ (d := 21) rfl rfl rfl rfl ?_
  refine Fw.q (Fw.val_pickF rfl rfl) rfl ?_
  refine Fw.q (Fw.val_move rfl) rfl ?_
  refine Fw.gFQ (d := 26) rfl rfl rfl rfl ?_
  refine Fw.gFQ (d := 26) rfl rfl rfl rfl ?_
  refine Fw.gFQ (d := 26) rfl rfl rfl rfl ?_
  refine Fw.gFQ (d := 26) rfl rfl rfl rfl ?_
  refine Fw.gFQ (d := 26) rfl rfl rfl rfl ?_
  refine Fw.gFQ (d := 26) rfl rfl rfl rfl ?_
  refine Fw.gFQ (d := 26) rfl rfl rfl rfl ?_
  refine Fw.gFQ (d := 26) rfl rfl rfl rfl ?_
  refine Fw.q (Fw.val_pickF rfl rfl) rfl ?_
  refine Fw.q (Fw.val_assign rfl) rfl ?_
  refine Fw.nilQ ?_
  intro w21 hb
  replace HE := HE.low hb
  replace HS := HS.low hb
  replace HB := HB.trans (hb.mono HB.size)
  clear hb
  refine hK25 _ _ (Fw.FC.sub (f' := [(4, _)]) (.cons rfl .nil) ?_)
  refine Fw.ret ?_
  refine Fw.X_blockR ?_
  refine Fw.X_ret ?_
  refine Fw.ret_ [.tmp 4] [_] Try.results50 (.tmp rfl .nil) ?_
  have h2 : decide (1 ≤ s.q) = false := decide_eq_false (by omega)
  rw [show Us.repB u s = false by unfold Us.repB; rw [h2]; simp]
  exact ⟨rfl, HB⟩
  rintro hs5
  refine Fw.s (Fw.val_assign rfl) rfl ?_
  refine Fw.nil ?_
  refine hK23 _ _ ?_
  refine Fw.condF rfl ?_
  refine Fw.region ?_
  refine Fw.s2 (Fw.val_bin rfl rfl Fw.b_eql) rfl ?_ ?_
  rintro hs6
  refine Fw.s (Fw.val_assign rfl) rfl ?_
  refine Fw.nil ?_
  refine hK4 _ _ ?_
  refine Fw.condT rfl ?_
  refine Fw.seq fun _ hK30 => ?_
  refine Fw.regionQ (by kernel_rfl) (by kernel_rfl) ?_
  refine Fw.q (Fw.val_fieldAddr fl60_1 rfl rfl) rfl ?_
  refine Fw.ldQ sc2 rfl (HS.cell 1) rfl ?_
  refine Fw.q2 (Fw.val_bin rfl rfl Fw.b_geq) rfl ?_ ?_
  rintro hq1
  refine Fw.q (Fw.val_move rfl) rfl ?_
  refine Fw.gTQ (d := 16) rfl rfl ?_
  refine Fw.q (Fw.val_fieldAddr fl60_3 rfl rfl) rfl ?_
  refine Fw.gTQ (d := 16) rfl rfl ?_
  refine Fw.ldQ sc3 rfl (HS.cell 3) rfl ?_
  refine Fw.gTQ (d := 16) rfl rfl ?_
  refine Fw.callQ cf28 rfl rfl (fun w_ hb_ => validNode_any _ _) (fun _ _ _ h => ⟨h.1, h.2 ▸ Below.refl _ _⟩) ?_
  refine Fw.b2Q ?_ ?_
  rintro hq2
  refine Fw.q (Fw.val_pickT rfl rfl) rfl ?_
  refine Fw.q (Fw.val_move rfl) rfl ?_
  refine Fw.gTQ (d := 21) rfl rfl ?_
  refine Fw.q (Fw.val_fieldAddr fl60_4 rfl rfl) rfl ?_
  refine Fw.gTQ (d := 21) rfl rfl ?_
  refine Fw.ldQ sc2 rfl (HS.cell 4) rfl ?_
  refine Fw.gTQ (d := 21) rfl rfl ?_
  refine Fw.q2 (Fw.val_bin rfl rfl Fw.b_geq) rfl ?_ ?_
  rintro hq3
  refine Fw.q (Fw.val_pickT rfl rfl) rfl ?_
  refine Fw.q (Fw.val_move rfl) rfl ?_
  refine Fw.gTQ (d := 26) rfl rfl ?_
  refine Fw.q (Fw.val_fieldAddr fl60_4 rfl rfl) rfl ?_
  refine Fw.gTQ (d := 26) rfl rfl ?_
  refine Fw.ldQ sc2 rfl (HS.cell 4) rfl ?_
  refine Fw.gTQ (d := 26) rfl rfl ?_
  refine Fw.q (Fw.val_move rfl) rfl ?_
  refine Fw.gTQ (d := 26) rfl rfl ?_
  refine Fw.q (Fw.val_nil rfl) rfl ?_
  refine Fw.gTQ (d := 26) rfl rfl ?_
  refine Fw.q (Fw.val_fieldAddr fl83_0 rfl rfl) rfl ?_
  refine Fw.gTQ (d := 26) rfl rfl ?_
  refine Fw.q (Fw.val_fieldAddr fl69_8 rfl rfl) rfl ?_
  refine Fw.gTQ (d := 26) rfl rfl ?_
  refine Fw.ldQ sc2 rfl (Fw.rdCell HE 8 rfl) rfl ?_
  refine Fw.gTQ (d := 26) rfl rfl ?_
  refine Fw.q2 (Fw.val_bin rfl rfl Fw.b_leq) rfl ?_ ?_
  rintro hq4
  refine Fw.q (Fw.val_pickT rfl rfl) rfl ?_
  refine Fw.q (Fw.val_assign rfl) rfl ?_
  refine Fw.nilQ ?_
  intro w22 hb
  replace HE := HE.low hb
  replace HS := HS.low hb
  replace HB := HB.trans (hb.mono HB.size)
  clear hb
  refine hK30 _ _ (Fw.FC.sub (f' := [(4, _)]) (.cons rfl .nil) ?_)
  refine Fw.ret ?_
  refine Fw.X_blockR ?_
  refine Fw.X_ret ?_
  refine Fw.ret_ [.tmp 4] [_] Try.results50 (.tmp rfl .nil) ?_
  have h1 : Us.says s.s = true := decide_eq_true (by omega)
  have h2 : decide (1 ≤ s.q) = true := decide_eq_true (by omega)
  have h4 : decide (0 ≤ s.e ∧ s.e ≤ u.ep) = true := decide_eq_true (by omega)
  rw [show Us.repB u s = true by unfold Us.repB; rw [h1, h2, hq2, h4]; rfl]
  exact ⟨rfl, HB⟩
  rintro hq4
  refine Fw.q (Fw.val_pickT rfl rfl) rfl ?_
  refine Fw.q (Fw.val_assign rfl) rfl ?_
  refine Fw.nilQ ?_
  intro w23 hb
  replace HE := HE.low hb
  replace HS := HS.low hb
  replace HB := HB.trans (hb.mono HB.size)
  clear hb
  refine hK30 _ _ (Fw.FC.sub (f' := [(4, _)]) (.cons rfl .nil) ?_)
  refine Fw.ret ?_
  refine Fw.X_blockR ?_
  refine Fw.X_ret ?_
  refine Fw.ret_ [.tmp 4] [_] Try.results50 (.tmp rfl .nil) ?_
  have h4 : decide (0 ≤ s.e ∧ s.e ≤ u.ep) = false := decide_eq_false (by omega)
  rw [show Us.repB u s = false by unfold Us.repB; rw [h4]; simp]
  exact ⟨rfl, HB⟩
  rintro hq3
  refine Fw.q (Fw.val_pickT rfl rfl) rfl ?_
  refine Fw.q (Fw.val_move rfl) rfl ?_
  refine Fw.gFQ (d := 26) rfl rfl rfl rfl ?_
  refine Fw.gFQ (d := 26) rfl rfl rfl rfl ?_
  refine Fw.gFQ (d := 26) rfl rfl rfl rfl ?_
  refine Fw.gFQ (d := 26) rfl rfl rfl rfl ?_
  refine Fw.gFQ (d := 26) rfl rfl rfl rfl ?_
  refine Fw.gFQ (d := 26) rfl rfl rfl rfl ?_
  refine Fw.gFQ (d := 26) rfl rfl rfl rfl ?_
  refine Fw.gFQ (d := 26) rfl rfl rfl rfl ?_
  refine Fw.q (Fw.val_pickF rfl rfl) rfl ?_
  refine Fw.q (Fw.val_assign rfl) rfl ?_
  refine Fw.nilQ ?_
  intro w24 hb
  replace HE := HE.low hb
  replace HS := HS.low hb
  replace HB := HB.trans (hb.mono HB.size)
  clear hb
  refine hK30 _ _ (Fw.FC.sub (f' := [(4, _)]) (.cons rfl .nil) ?_)
  refine Fw.ret ?_
  refine Fw.X_blockR ?_
  refine Fw.X_ret ?_
  refine Fw.ret_ [.tmp 4] [_] Try.results50 (.tmp rfl .nil) ?_
  have h4 : decide (0 ≤ s.e ∧ s.e ≤ u.ep) = false := decide_eq_false (by omega)
  rw [show Us.repB u s = false by unfold Us.repB; rw [h4]; simp]
  exact ⟨rfl, HB⟩
  rintro hq2
  refine Fw.q (Fw.val_pickT rfl rfl) rfl ?_
  refine Fw.q (Fw.val_move rfl) rfl ?_
  refine Fw.gFQ (d := 21) rfl rfl rfl rfl ?_
  refine Fw.gFQ (d := 21) rfl rfl rfl rfl ?_
  refine Fw.gFQ (d := 21) rfl rfl rfl rfl ?_
  refine Fw.q (Fw.val_pickF rfl rfl) rfl ?_
  refine Fw.q (Fw.val_move rfl) rfl ?_
  refine Fw.gFQ (d := 26) rfl rfl rfl rfl ?_
  refine Fw.gFQ (d := 26) rfl rfl rfl rfl ?_
  refine Fw.gFQ (d := 26) rfl rfl rfl rfl ?_
  refine Fw.gFQ (d := 26) rfl rfl rfl rfl ?_
  refine Fw.gFQ (d := 26) rfl rfl rfl rfl ?_
  refine Fw.gFQ (d := 26) rfl rfl rfl rfl ?_
  refine Fw.gFQ (d := 26) rfl rfl rfl rfl ?_
  refine Fw.gFQ (d := 26) rfl rfl rfl rfl ?_
  refine Fw.q (Fw.val_pickF rfl rfl) rfl ?_
  refine Fw.q (Fw.val_assign rfl) rfl ?_
  refine Fw.nilQ ?_
  intro w25 hb
  replace HE := HE.low hb
  replace HS := HS.low hb
  replace HB := HB.trans (hb.mono HB.size)
  clear hb
  refine hK30 _ _ (Fw.FC.sub (f' := [(4, _)]) (.cons rfl .nil) ?_)
  refine Fw.ret ?_
  refine Fw.X_blockR ?_
  refine Fw.X_ret ?_
  refine Fw.ret_ [.tmp 4] [_] Try.results50 (.tmp rfl .nil) ?_
  rw [show Us.repB u s = false by unfold Us.repB; rw [hq2]; simp]
  exact ⟨rfl, HB⟩
  rintro hq1
  refine Fw.q (Fw.val_move rfl) rfl ?_
  refine Fw.gFQ (d := 16) rfl rfl rfl rfl ?_
  refine Fw.gFQ (d := 16) rfl rfl rfl rfl ?_
  refine Fw.gFQ (d := 16) rfl rfl rfl rfl ?_
  refine Fw.q (Fw.val_pickF rfl rfl) rfl ?_
  refine Fw.q (Fw.val_move rfl) rfl ?_
  refine Fw.gFQ (d := 21) rfl rfl rfl rfl ?_
  refine Fw.gFQ (d := 21) rfl rfl rfl rfl ?_
  refine Fw.gFQ (d := 21) rfl rfl rfl rfl ?_
  refine Fw.q (Fw.val_pickF rfl rfl) rfl ?_
  refine Fw.q (Fw.val_move rfl) rfl ?_
  refine Fw.gFQ (d := 26) rfl rfl rfl rfl ?_
  refine Fw.gFQ (d := 26) rfl rfl rfl rfl ?_
  refine Fw.gFQ (d := 26) rfl rfl rfl rfl ?_
  refine Fw.gFQ (d := 26) rfl rfl rfl rfl ?_
  refine Fw.gFQ (d := 26) rfl rfl rfl rfl ?_
  refine Fw.gFQ (d := 26) rfl rfl rfl rfl ?_
  refine Fw.gFQ (d := 26) rfl rfl rfl rfl ?_
  refine Fw.gFQ (d := 26) rfl rfl rfl rfl ?_
  refine Fw.q (Fw.val_pickF rfl rfl) rfl ?_
  refine Fw.q (Fw.val_assign rfl) rfl ?_
  refine Fw.nilQ ?_
  intro w26 hb
  replace HE := HE.low hb
  replace HS := HS.low hb
  replace HB := HB.trans (hb.mono HB.size)
  clear hb
  refine hK30 _ _ (Fw.FC.sub (f' := [(4, _)]) (.cons rfl .nil) ?_)
  refine Fw.ret ?_
  refine Fw.X_blockR ?_
  refine Fw.X_ret ?_
  refine Fw.ret_ [.tmp 4] [_] Try.results50 (.tmp rfl .nil) ?_
  have h2 : decide (1 ≤ s.q) = false := decide_eq_false (by omega)
  rw [show Us.repB u s = false by unfold Us.repB; rw [h2]; simp]
  exact ⟨rfl, HB⟩
  rintro hs6
  refine Fw.s (Fw.val_assign rfl) rfl ?_
  refine Fw.nil ?_
  refine hK4 _ _ ?_
  refine Fw.condF rfl ?_
  refine Fw.skip ?_
  refine Fw.X_blockN ?_
  refine hK2 _ _ (Fw.FC.sub (f' := []) .nil ?_)
  refine Fw.seq fun _ hK34 => ?_
  refine Fw.region ?_
  refine Fw.s (Fw.val_assign rfl) rfl ?_
  refine Fw.nil ?_
  refine hK34 _ _ ?_
  refine Fw.ret ?_
  refine Fw.ret_ [.tmp 4] [_] Try.results50 (.tmp rfl .nil) ?_
  have h1 : Us.says s.s = false := decide_eq_false (by omega)
  rw [show Us.repB u s = false by unfold Us.repB; rw [h1]; rfl]
  exact ⟨rfl, HB⟩

end Go.Proofs.Ytodhpooddmeghaa
