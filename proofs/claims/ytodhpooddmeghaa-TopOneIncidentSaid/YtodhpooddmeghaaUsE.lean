import Derived.Test.YtodhpooddmeghaaUsB
import Derived.Test.YtodhpooddmeghaaCkWalks
/- Layer 27: Unit, PendingOrder, Available, AssignedTo, All. -/
namespace Go.Proofs.Ytodhpooddmeghaa
set_option linter.unusedSimpArgs false
set_option linter.unusedVariables false
open Go.RowKit

namespace Us
/-- what Unit and PendingOrder say -/
def U.headI (u : U) : List Int := [u.id, u.kind, u.home, u.state, u.node, u.seq, u.heard, u.inc, u.ep, u.ack]
def U.ordI (u : U) : List Int := [u.ou, u.oe, u.ok, u.oi, u.on]
def unitI (l : List U) (id : Int) : List Int := if there l id then (get l id).headI else zero.headI
def ordI (l : List U) (id : Int) : List Int := if pend l id then (get l id).ordI else zero.ordI
theorem unitI_len (l : List U) (id : Int) : (unitI l id).length = 10 := by unfold unitI; split <;> rfl
theorem ordI_len (l : List U) (id : Int) : (ordI l id).length = 5 := by unfold ordI; split <;> rfl
theorem ordI_five (l : List U) (id : Int) : ∃ a b c d e, ordI l id = [a, b, c, d, e] := by unfold ordI; split <;> exact ⟨_, _, _, _, _, rfl⟩
def unitA (l : List U) (id : Int) : List Value := (unitI l id).map (.int .i64)
def ordA (l : List U) (id : Int) : List Value := (ordI l id).map (.int .i64)
theorem all_snoc (p : U → Bool) (l : List U) (k : Nat) (hk : k < l.length) : (l.take (k + 1)).all p = ((l.take k).all p && p l[k]) := by
  rw [List.take_succ_eq_append_getElem hk, List.all_append]; simp
end Us
set_option maxRecDepth 100000 in
set_option maxHeartbeats 1000000 in
theorem unit_any (w : World) (B p g c : Nat) (l : List Us.U) (id : Int) (h : RegAt w B p g c l) : Calls Try.prog 23 #[.pointer (some ⟨p, 0, none⟩), .int .i64 id] w fun e_ w' => e_ = .returned (.tuple #[.agg (Us.unitA l id).toArray, .bool (Us.there l id)]) ∧ Below w.heap.size w w' := by
  cases hth : Us.there l id with
  | true =>
    obtain ⟨i, hid, hi⟩ : ∃ i : Nat, id = i ∧ i < l.length := by have := of_decide_eq_true hth; exact ⟨(id).toNat, by omega, by omega⟩
    have hg := Us.get_at hid hi
    have HE := (h.at hi).rd Us.U.len
    have HR := h
    refine Fw.calls Try.func23 rfl Try.ntmps23 rfl ?_
    have HB := Below.refl (w.heap.size) w
    refine Fw.seq fun _ hK1 => ?_
    refine Fw.region ?_
    refine Fw.alloc ze69 rfl ?_
    intro w1 gX4 egX4 HX4 hb
    have lgX4 : w.heap.size ≤ gX4 := by have := HB.size; omega
    replace HB := HB.trans (hb.mono HB.size)
    clear hb
    clear egX4
    refine Fw.s (Fw.val_assign rfl) rfl ?_
    refine Fw.nil ?_
    refine hK1 _ _ ?_
    refine Fw.seq fun _ hK2 => ?_
    refine Fw.region ?_
    refine Fw.s (Fw.val_move rfl) rfl ?_
    refine Fw.s (Fw.val_move rfl) rfl ?_
    refine Fw.call cf32 rfl rfl (find_in _ B p g c l _ i hid hi (HR.low HB)) ?_
    rintro e_ _ ⟨rfl, rfl⟩
    refine ⟨_, rfl, ?_⟩
    refine Fw.s (Fw.val_assign rfl) rfl ?_
    refine Fw.nil ?_
    refine hK2 _ _ ?_
    refine Fw.seq fun _ hK3 => ?_
    refine Fw.seq fun _ hK4 => ?_
    refine Fw.region ?_
    refine Fw.s (Fw.val_move rfl) rfl ?_
    refine Fw.s (Fw.val_bin rfl rfl (Fw.b_nilP Try.underlying90)) rfl ?_
    refine Fw.nil ?_
    refine hK4 _ _ (Fw.FC.sub (f' := [(11, _), (6, _), (4, _)]) (.cons rfl (.cons rfl (.cons rfl .nil))) ?_)
    refine Fw.condF rfl ?_
    refine Fw.skip ?_
    refine hK3 _ _ ?_
    refine Fw.seq fun _ hK5 => ?_
    refine Fw.region ?_
    refine Fw.s (Fw.val_move rfl) rfl ?_
    refine Fw.s (Fw.val_nil rfl) rfl ?_
    refine Fw.s (Fw.val_fieldAddr fl83_0 rfl rfl) rfl ?_
    refine Fw.ldA ag69 rfl (Fw.rdPart (HE.low HB) 0 10) rfl rfl ?_
    refine Fw.storeW sz69 rfl rfl HX4 rfl rfl (by exact Fw.oneCells rfl) ?_
    intro w2 N_ hc
    replace HB := HB.trans (hc.below (B := w.heap.size) (fun k e => by omega) HB.size)
    clear hc
    clear HX4
    have HX4 := N_
    clear N_
    refine Fw.s (Fw.val_assign rfl) rfl ?_
    refine Fw.nil ?_
    refine hK5 _ _ ?_
    refine Fw.ret ?_
    refine Fw.ret_ [.cell 4 69, .tmp 5] [_, _] Try.results23 (Fw.ResL.cellM rfl ag69 (Fw.rdBlk HX4) rfl (.tmp rfl .nil)) ?_
    rw [show Us.unitA l id = Us.U.head l[i] by unfold Us.unitA Us.unitI; rw [hth, hg]; rfl]
    exact ⟨rfl, HB⟩
  | false =>
    have HR := h
    refine Fw.calls Try.func23 rfl Try.ntmps23 rfl ?_
    have HB := Below.refl (w.heap.size) w
    refine Fw.seq fun _ hK1 => ?_
    refine Fw.region ?_
    refine Fw.alloc ze69 rfl ?_
    intro w1 gX4 egX4 HX4 hb
    have lgX4 : w.heap.size ≤ gX4 := by have := HB.size; omega
    replace HB := HB.trans (hb.mono HB.size)
    clear hb
    clear egX4
    refine Fw.s (Fw.val_assign rfl) rfl ?_
    refine Fw.nil ?_
    refine hK1 _ _ ?_
    refine Fw.seq fun _ hK2 => ?_
    refine Fw.region ?_
    refine Fw.s (Fw.val_move rfl) rfl ?_
    refine Fw.s (Fw.val_move rfl) rfl ?_
    refine Fw.call cf32 rfl rfl (find_out _ B p g c l _ hth (HR.low HB)) ?_
    rintro e_ _ ⟨rfl, rfl⟩
    refine ⟨_, rfl, ?_⟩
    refine Fw.s (Fw.val_assign rfl) rfl ?_
    refine Fw.nil ?_
    refine hK2 _ _ ?_
    refine Fw.seq fun _ hK3 => ?_
    refine Fw.seq fun _ hK4 => ?_
    refine Fw.region ?_
    refine Fw.s (Fw.val_move rfl) rfl ?_
    refine Fw.s (Fw.val_bin rfl rfl (Fw.b_nilP Try.underlying90)) rfl ?_
    refine Fw.nil ?_
    refine hK4 _ _ (Fw.FC.sub (f' := [(11, _), (6, _), (4, _)]) (.cons rfl (.cons rfl (.cons rfl .nil))) ?_)
    refine Fw.condT rfl ?_
    refine Fw.seq fun _ hK5 => ?_
    refine Fw.region ?_
    refine Fw.s (Fw.val_build (ps := []) rfl (bu69_)) rfl ?_
    refine Fw.storeW sz69 rfl rfl HX4 rfl rfl (by exact Fw.oneCells rfl) ?_
    intro w2 N_ hc
    replace HB := HB.trans (hc.below (B := w.heap.size) (fun k e => by omega) HB.size)
    clear hc
    clear HX4
    have HX4 := N_
    clear N_
    refine Fw.s (Fw.val_assign rfl) rfl ?_
    refine Fw.nil ?_
    refine hK5 _ _ ?_
    refine Fw.ret ?_
    refine Fw.X_ret ?_
    refine Fw.ret_ [.cell 4 69, .tmp 5] [_, _] Try.results23 (Fw.ResL.cellM rfl ag69 (Fw.rdBlk HX4) rfl (.tmp rfl .nil)) ?_
    rw [show Us.unitA l id = Us.U.head Us.zero by unfold Us.unitA Us.unitI; rw [hth]; rfl]
    exact ⟨rfl, HB⟩

set_option maxRecDepth 100000 in
set_option maxHeartbeats 1000000 in
theorem pendingOrder_any (w : World) (B p g c : Nat) (l : List Us.U) (id : Int) (h : RegAt w B p g c l) : Calls Try.prog 13 #[.pointer (some ⟨p, 0, none⟩), .int .i64 id] w fun e_ w' => e_ = .returned (.tuple #[.agg (Us.ordA l id).toArray, .bool (Us.pend l id)]) ∧ Below w.heap.size w w' := by
  cases hth : Us.there l id with
  | true =>
    obtain ⟨i, hid, hi⟩ : ∃ i : Nat, id = i ∧ i < l.length := by have := of_decide_eq_true hth; exact ⟨(id).toNat, by omega, by omega⟩
    have hg := Us.get_at hid hi
    have HE := (h.at hi).rd Us.U.len
    have HR := h
    refine Fw.calls Try.func13 rfl Try.ntmps13 rfl ?_
    have HB := Below.refl (w.heap.size) w
    refine Fw.seq fun _ hK1 => ?_
    refine Fw.region ?_
    refine Fw.alloc ze50 rfl ?_
    intro w1 gX4 egX4 HX4 hb
    have lgX4 : w.heap.size ≤ gX4 := by have := HB.size; omega
    replace HB := HB.trans (hb.mono HB.size)
    clear hb
    clear egX4
    refine Fw.s (Fw.val_assign rfl) rfl ?_
    refine Fw.nil ?_
    refine hK1 _ _ ?_
    refine Fw.seq fun _ hK2 => ?_
    refine Fw.region ?_
    refine Fw.s (Fw.val_move rfl) rfl ?_
    refine Fw.s (Fw.val_move rfl) rfl ?_
    refine Fw.call cf32 rfl rfl (find_in _ B p g c l _ i hid hi (HR.low HB)) ?_
    rintro e_ _ ⟨rfl, rfl⟩
    refine ⟨_, rfl, ?_⟩
    refine Fw.s (Fw.val_assign rfl) rfl ?_
    refine Fw.nil ?_
    refine hK2 _ _ ?_
    refine Fw.seq fun _ hK3 => ?_
    refine Fw.seq fun _ hK4 => ?_
    refine Fw.regionQ (by kernel_rfl) (by kernel_rfl) ?_
    refine Fw.q (Fw.val_move rfl) rfl ?_
    refine Fw.q (Fw.val_bin rfl rfl (Fw.b_nilP Try.underlying90)) rfl ?_
    refine Fw.q (Fw.val_move rfl) rfl ?_
    refine Fw.gTQ (d := 12) rfl rfl ?_
    refine Fw.q (Fw.val_move rfl) rfl ?_
    refine Fw.gTQ (d := 12) rfl rfl ?_
    refine Fw.q (Fw.val_nil rfl) rfl ?_
    refine Fw.gTQ (d := 12) rfl rfl ?_
    refine Fw.q (Fw.val_fieldAddr fl83_0 rfl rfl) rfl ?_
    refine Fw.gTQ (d := 12) rfl rfl ?_
    refine Fw.q (Fw.val_fieldAddr fl69_9 rfl rfl) rfl ?_
    refine Fw.gTQ (d := 12) rfl rfl ?_
    refine Fw.ldQ sc2 rfl (Fw.rdCell (HE.low HB) 9 rfl) rfl ?_
    refine Fw.gTQ (d := 12) rfl rfl ?_
    refine Fw.q (Fw.val_move rfl) rfl ?_
    refine Fw.gTQ (d := 12) rfl rfl ?_
    refine Fw.q (Fw.val_nil rfl) rfl ?_
    refine Fw.gTQ (d := 12) rfl rfl ?_
    refine Fw.q (Fw.val_fieldAddr fl83_0 rfl rfl) rfl ?_
    refine Fw.gTQ (d := 12) rfl rfl ?_
    refine Fw.q (Fw.val_fieldAddr fl69_8 rfl rfl) rfl ?_
    refine Fw.gTQ (d := 12) rfl rfl ?_
    refine Fw.ldQ sc2 rfl (Fw.rdCell (HE.low HB) 8 rfl) rfl ?_
    refine Fw.gTQ (d := 12) rfl rfl ?_
    refine Fw.q2 (Fw.val_bin rfl rfl Fw.b_geq) rfl ?_ ?_
    rintro hq
    refine Fw.q (Fw.val_pickF rfl rfl) rfl ?_
    refine Fw.nilQ ?_
    intro w2 hb
    replace HX4 := HX4.low hb
    replace HB := HB.trans (hb.mono HB.size)
    clear hb
    refine hK4 _ _ (Fw.FC.sub (f' := [(24, _), (6, _), (4, _)]) (.cons rfl (.cons rfl (.cons rfl .nil))) ?_)
    refine Fw.condT rfl ?_
    refine Fw.seq fun _ hK6 => ?_
    refine Fw.region ?_
    refine Fw.s (Fw.val_build (ps := []) rfl (bu50_)) rfl ?_
    refine Fw.storeW sz50 rfl rfl HX4 rfl rfl (by exact Fw.oneCells rfl) ?_
    intro w3 N_ hc
    replace HB := HB.trans (hc.below (B := w.heap.size) (fun k e => by omega) HB.size)
    clear hc
    clear HX4
    have HX4 := N_
    clear N_
    refine Fw.s (Fw.val_assign rfl) rfl ?_
    refine Fw.nil ?_
    refine hK6 _ _ ?_
    refine Fw.ret ?_
    refine Fw.X_ret ?_
    refine Fw.ret_ [.cell 4 50, .tmp 5] [_, _] Try.results13 (Fw.ResL.cellM rfl ag50 (Fw.rdBlk HX4) rfl (.tmp rfl .nil)) ?_
    have hp : Us.pend l id = false := by unfold Us.pend; rw [hth, hg, decide_eq_false (by omega)]; rfl
    rw [show Us.ordA l id = Us.U.ord Us.zero by unfold Us.ordA Us.ordI; rw [hp]; rfl, hp]
    exact ⟨rfl, HB⟩
    rintro hq
    refine Fw.q (Fw.val_pickF rfl rfl) rfl ?_
    refine Fw.nilQ ?_
    intro w4 hb
    replace HX4 := HX4.low hb
    replace HB := HB.trans (hb.mono HB.size)
    clear hb
    refine hK4 _ _ (Fw.FC.sub (f' := [(24, _), (6, _), (4, _)]) (.cons rfl (.cons rfl (.cons rfl .nil))) ?_)
    refine Fw.condF rfl ?_
    refine Fw.skip ?_
    refine hK3 _ _ ?_
    refine Fw.seq fun _ hK7 => ?_
    refine Fw.region ?_
    refine Fw.s (Fw.val_move rfl) rfl ?_
    refine Fw.s (Fw.val_nil rfl) rfl ?_
    refine Fw.s (Fw.val_fieldAddr fl83_1 rfl rfl) rfl ?_
    refine Fw.ldA ag50 rfl (Fw.rdPart (HE.low HB) 10 5) rfl rfl ?_
    refine Fw.storeW sz50 rfl rfl HX4 rfl rfl (by exact Fw.oneCells rfl) ?_
    intro w5 N_ hc
    replace HB := HB.trans (hc.below (B := w.heap.size) (fun k e => by omega) HB.size)
    clear hc
    clear HX4
    have HX4 := N_
    clear N_
    refine Fw.s (Fw.val_assign rfl) rfl ?_
    refine Fw.nil ?_
    refine hK7 _ _ ?_
    refine Fw.ret ?_
    refine Fw.ret_ [.cell 4 50, .tmp 5] [_, _] Try.results13 (Fw.ResL.cellM rfl ag50 (Fw.rdBlk HX4) rfl (.tmp rfl .nil)) ?_
    have hp : Us.pend l id = true := by unfold Us.pend; rw [hth, hg, decide_eq_true (by omega)]; rfl
    rw [show Us.ordA l id = Us.U.ord l[i] by unfold Us.ordA Us.ordI; rw [hp, hg]; rfl, hp]
    exact ⟨rfl, HB⟩
  | false =>
    have HR := h
    refine Fw.calls Try.func13 rfl Try.ntmps13 rfl ?_
    have HB := Below.refl (w.heap.size) w
    refine Fw.seq fun _ hK1 => ?_
    refine Fw.region ?_
    refine Fw.alloc ze50 rfl ?_
    intro w1 gX4 egX4 HX4 hb
    have lgX4 : w.heap.size ≤ gX4 := by have := HB.size; omega
    replace HB := HB.trans (hb.mono HB.size)
    clear hb
    clear egX4
    refine Fw.s (Fw.val_assign rfl) rfl ?_
    refine Fw.nil ?_
    refine hK1 _ _ ?_
    refine Fw.seq fun _ hK2 => ?_
    refine Fw.region ?_
    refine Fw.s (Fw.val_move rfl) rfl ?_
    refine Fw.s (Fw.val_move rfl) rfl ?_
    refine Fw.call cf32 rfl rfl (find_out _ B p g c l _ hth (HR.low HB)) ?_
    rintro e_ _ ⟨rfl, rfl⟩
    refine ⟨_, rfl, ?_⟩
    refine Fw.s (Fw.val_assign rfl) rfl ?_
    refine Fw.nil ?_
    refine hK2 _ _ ?_
    refine Fw.seq fun _ hK3 => ?_
    refine Fw.seq fun _ hK4 => ?_
    refine Fw.regionQ (by kernel_rfl) (by kernel_rfl) ?_
    refine Fw.q (Fw.val_move rfl) rfl ?_
    refine Fw.q (Fw.val_bin rfl rfl (Fw.b_nilP Try.underlying90)) rfl ?_
    refine Fw.q (Fw.val_move rfl) rfl ?_
    refine Fw.gFQ (d := 12) rfl rfl rfl rfl ?_
    refine Fw.gFQ (d := 12) rfl rfl rfl rfl ?_
    refine Fw.gFQ (d := 12) rfl rfl rfl rfl ?_
    refine Fw.gFQ (d := 12) rfl rfl rfl rfl ?_
    refine Fw.gFQ (d := 12) rfl rfl rfl rfl ?_
    refine Fw.gFQ (d := 12) rfl rfl rfl rfl ?_
    refine Fw.gFQ (d := 12) rfl rfl rfl rfl ?_
    refine Fw.gFQ (d := 12) rfl rfl rfl rfl ?_
    refine Fw.gFQ (d := 12) rfl rfl rfl rfl ?_
    refine Fw.gFQ (d := 12) rfl rfl rfl rfl ?_
    refine Fw.gFQ (d := 12) rfl rfl rfl rfl ?_
    refine Fw.q (Fw.val_pickT rfl rfl) rfl ?_
    refine Fw.nilQ ?_
    intro w2 hb
    replace HX4 := HX4.low hb
    replace HB := HB.trans (hb.mono HB.size)
    clear hb
    refine hK4 _ _ (Fw.FC.sub (f' := [(24, _), (6, _), (4, _)]) (.cons rfl (.cons rfl (.cons rfl .nil))) ?_)
    refine Fw.condT rfl ?_
    refine Fw.seq fun _ hK5 => ?_
    refine Fw.region ?_
    refine Fw.s (Fw.val_build (ps := []) rfl (bu50_)) rfl ?_
    refine Fw.storeW sz50 rfl rfl HX4 rfl rfl (by exact Fw.oneCells rfl) ?_
    intro w3 N_ hc
    replace HB := HB.trans (hc.below (B := w.heap.size) (fun k e => by omega) HB.size)
    clear hc
    clear HX4
    have HX4 := N_
    clear N_
    refine Fw.s (Fw.val_assign rfl) rfl ?_
    refine Fw.nil ?_
    refine hK5 _ _ ?_
    refine Fw.ret ?_
    refine Fw.X_ret ?_
    refine Fw.ret_ [.cell 4 50, .tmp 5] [_, _] Try.results13 (Fw.ResL.cellM rfl ag50 (Fw.rdBlk HX4) rfl (.tmp rfl .nil)) ?_
    have hp : Us.pend l id = false := by unfold Us.pend; rw [hth]; rfl
    rw [show Us.ordA l id = Us.U.ord Us.zero by unfold Us.ordA Us.ordI; rw [hp]; rfl, hp]
    exact ⟨rfl, HB⟩

end Go.Proofs.Ytodhpooddmeghaa
namespace Go.Proofs.Ytodhpooddmeghaa
set_option linter.unusedSimpArgs false
set_option linter.unusedVariables false
open Go.RowKit

end Go.Proofs.Ytodhpooddmeghaa
namespace Go.Proofs.Ytodhpooddmeghaa
set_option linter.unusedSimpArgs false
set_option linter.unusedVariables false
open Go.RowKit

theorem RegAt.map {w : World} {B p g c k : Nat} {l : List Us.U} (F : Us.U → Us.U) (h1 : B ≤ p) (h2 : B ≤ g) (hp : Blk w p 80 #[.slice (some ⟨g, 0, none⟩) l.length c]) (h : w.ownsRow B 83 15 (.slice (some ⟨g, 0, none⟩) l.length c) l.length ((Fw.mix (l.map F) l k).flatMap Us.U.cells)) (hk : k = l.length) : RegAt w B p g c (l.map F) := by
  rw [Fw.mix_all (by simp) hk] at h
  exact ⟨h1, h2, by rw [List.length_map]; exact hp, by rw [List.length_map]; exact h⟩

set_option maxRecDepth 100000 in
set_option maxHeartbeats 1000000 in
theorem silent_any (w : World) (B p g c : Nat) (l : List Us.U) (now n e : Int) (h : RegAt w B p g c l) (hl : l.length ≤ 256) : Calls Try.prog 12 #[.pointer (some ⟨p, 0, none⟩), .int .i64 now, .int .i64 n, .int .i64 e] w fun e_ w' => ∃ A' c', e_ = .returned (.slice A' (Us.quietW l now n e).length c') ∧ w'.ownsRow w.heap.size 3 1 (.slice A' (Us.quietW l now n e).length c') (Us.quietW l now n e).length ((Us.quietW l now n e).map (.int .i64)) ∧ RegAt w' B p g c (Us.quietL l now n e) ∧ Chg (· = g) w w' := by
  have HR := h
  have hlt := h.lt
  obtain ⟨hBp, hBg, HP, HO⟩ := h
  refine Fw.calls Try.func12 rfl Try.ntmps12 rfl ?_
  have HC := Chg.refl (· = g) w
  refine Fw.seq fun _ hK1 => ?_
  refine Fw.region ?_
  refine Fw.s (Fw.val_assign rfl) rfl ?_
  refine Fw.nil ?_
  refine hK1 _ _ ?_
  refine Fw.seq fun _ hK2 => ?_
  refine Fw.seq fun _ hK3 => ?_
  refine Fw.region ?_
  refine Fw.s (Fw.val_move rfl) rfl ?_
  refine Fw.s2 (Fw.val_bin rfl rfl Fw.b_lss) rfl ?_ ?_
  rintro h1
  refine Fw.s (Fw.val_move rfl) rfl ?_
  refine Fw.gF (d := 15) rfl rfl rfl rfl ?_
  refine Fw.gF (d := 15) rfl rfl rfl rfl ?_
  refine Fw.gF (d := 15) rfl rfl rfl rfl ?_
  refine Fw.s (Fw.val_pickT rfl rfl) rfl ?_
  refine Fw.s (Fw.val_move rfl) rfl ?_
  refine Fw.gF (d := 20) rfl rfl rfl rfl ?_
  refine Fw.gF (d := 20) rfl rfl rfl rfl ?_
  refine Fw.s (Fw.val_pickT rfl rfl) rfl ?_
  refine Fw.nil ?_
  refine hK3 _ _ (Fw.FC.sub (f' := [(23, _), (0, _), (1, _), (2, _), (3, _)]) (.cons rfl (.cons rfl (.cons rfl (.cons rfl (.cons rfl .nil))))) ?_)
  refine Fw.condT rfl ?_
  refine Fw.seq fun _ hK5 => ?_
  refine Fw.region ?_
  refine Fw.s (Fw.val_assign rfl) rfl ?_
  refine Fw.nil ?_
  refine hK5 _ _ ?_
  refine Fw.ret ?_
  refine Fw.X_ret ?_
  refine Fw.ret_ [.tmp 8] [_] Try.results12 (.tmp rfl .nil) ?_
  have ok : Us.quietOk l now n e = false := by unfold Us.quietOk; rw [decide_eq_false (by omega)]; rfl
  rw [show Us.quietW l now n e = [] by unfold Us.quietW; rw [ok]; rfl, show Us.quietL l now n e = l by unfold Us.quietL; rw [ok]; rfl]
  exact ⟨none, 0, rfl, ⟨rfl, .inl ⟨rfl, rfl⟩⟩, HR, HC⟩
  rintro h1
  refine Fw.s (Fw.val_move rfl) rfl ?_
  refine Fw.gT (d := 15) rfl rfl ?_
  refine Fw.s (Fw.val_move rfl) rfl ?_
  refine Fw.gT (d := 15) rfl rfl ?_
  refine Fw.call cf37 rfl rfl (validTick_any _ _) ?_
  rintro e_ _ ⟨rfl, rfl⟩
  refine ⟨_, rfl, ?_⟩
  refine Fw.b2 ?_ ?_
  rintro h2
  refine Fw.gT (d := 15) rfl rfl ?_
  refine Fw.s (Fw.val_not rfl) rfl ?_
  refine Fw.s (Fw.val_pickF rfl rfl) rfl ?_
  refine Fw.s (Fw.val_move rfl) rfl ?_
  refine Fw.gT (d := 20) rfl rfl ?_
  refine Fw.s (Fw.val_move rfl) rfl ?_
  refine Fw.gT (d := 20) rfl rfl ?_
  refine Fw.s2 (Fw.val_bin rfl rfl Fw.b_gtr) rfl ?_ ?_
  rintro h3
  refine Fw.s (Fw.val_pickF rfl rfl) rfl ?_
  refine Fw.nil ?_
  refine hK3 _ _ (Fw.FC.sub (f' := [(23, _), (0, _), (1, _), (2, _), (3, _)]) (.cons rfl (.cons rfl (.cons rfl (.cons rfl (.cons rfl .nil))))) ?_)
  refine Fw.condT rfl ?_
  refine Fw.seq fun _ hK7 => ?_
  refine Fw.region ?_
  refine Fw.s (Fw.val_assign rfl) rfl ?_
  refine Fw.nil ?_
  refine hK7 _ _ ?_
  refine Fw.ret ?_
  refine Fw.X_ret ?_
  refine Fw.ret_ [.tmp 8] [_] Try.results12 (.tmp rfl .nil) ?_
  have hE : Us.quietW l now n e = [] ∧ Us.quietL l now n e = l := by
    cases l with
    | nil => unfold Us.quietW Us.quietL; constructor <;> split <;> rfl
    | cons u t =>
      have ok : Us.quietOk (u :: t) now n e = false := by unfold Us.quietOk; rw [List.all_cons, show Us.epB u e = false from decide_eq_false (by omega)]; simp
      exact ⟨by unfold Us.quietW; rw [ok]; rfl, by unfold Us.quietL; rw [ok]; rfl⟩
  rw [hE.1, hE.2]
  exact ⟨none, 0, rfl, ⟨rfl, .inl ⟨rfl, rfl⟩⟩, HR, HC⟩
  rintro h3
  refine Fw.s (Fw.val_pickF rfl rfl) rfl ?_
  refine Fw.nil ?_
  refine hK3 _ _ (Fw.FC.sub (f' := [(23, _), (0, _), (1, _), (2, _), (3, _)]) (.cons rfl (.cons rfl (.cons rfl (.cons rfl (.cons rfl .nil))))) ?_)
  refine Fw.condF rfl ?_
  refine Fw.skip ?_
  refine hK2 _ _ ?_
  refine Fw.seq fun _ hK8 => ?_
  refine Fw.seq fun _ hK9 => ?_
  refine Fw.region ?_
  refine Fw.s (Fw.val_move rfl) rfl ?_
  refine Fw.s (Fw.val_nil rfl) rfl ?_
  refine Fw.s (Fw.val_fieldAddr fl80_0 rfl rfl) rfl ?_
  refine Fw.ld sc78 rfl (HP.cell 0) rfl ?_
  refine Fw.s (Fw.val_len Try.underlying78 rfl) rfl ?_
  refine Fw.s (Fw.val_move rfl) rfl ?_
  refine Fw.nil ?_
  refine hK9 _ _ ?_
  refine Fw.block ?_
  refine Fw.loop (fun m_ f_ W_ => ∃ (k : Nat), m_ = l.length - k ∧ k ≤ l.length ∧ (l.take k).all (fun u => Us.epB u e) = true ∧ Blk W_ p 80 #[.slice (some ⟨g, 0, none⟩) l.length c] ∧ RegAt W_ B p g c l ∧ W_.ownsRow B 83 15 (.slice (some ⟨g, 0, none⟩) l.length c) l.length (l.flatMap Us.U.cells) ∧ Chg (· = g) w W_ ∧ f_ = [(29, .int .i64 k), (28, .int .i64 l.length), (0, .pointer (some ⟨p, 0, none⟩)), (1, .int .i64 now), (2, .int .i64 n), (3, .int .i64 e)]) ⟨_, _, ⟨0, rfl, Nat.zero_le _, rfl, HP, HR, HO, HC, rfl⟩, (.cons rfl (.cons rfl (.cons rfl (.cons rfl (.cons rfl (.cons rfl .nil))))))⟩ ?_
  clear HP HR HO HC
  rintro m10_ _ w1 ⟨k, hm10_, hkl, hall, HP, HR, HO, HC, rfl⟩
  refine Fw.seq fun _ hK11 => ?_
  refine Fw.region ?_
  refine Fw.s2 (Fw.val_bin rfl rfl Fw.b_lss) rfl ?_ ?_
  rintro hk
  refine Fw.nil ?_
  refine hK11 _ _ ?_
  refine Fw.seq fun _ hK13 => ?_
  refine Fw.condT rfl ?_
  refine Fw.skip ?_
  refine hK13 _ _ ?_
  refine Fw.seq fun _ hK14 => ?_
  refine Fw.block ?_
  refine Fw.seq fun _ hK15 => ?_
  refine Fw.region ?_
  refine Fw.s (Fw.val_move rfl) rfl ?_
  refine Fw.s (Fw.val_assign rfl) rfl ?_
  refine Fw.nil ?_
  refine hK15 _ _ ?_
  refine Fw.seq fun _ hK16 => ?_
  have hkn : k < l.length := by omega
  refine Fw.region ?_
  refine Fw.s (Fw.val_move rfl) rfl ?_
  refine Fw.s (Fw.val_nil rfl) rfl ?_
  refine Fw.s (Fw.val_fieldAddr fl80_0 rfl rfl) rfl ?_
  refine Fw.ld sc78 rfl (HP.cell 0) rfl ?_
  refine Fw.s (Fw.val_move rfl) rfl ?_
  refine Fw.s (Fw.val_indexR Try.underlying78 sz83 rfl rfl rfl rfl hkn (Fw.add0 g (k * 15))) rfl ?_
  refine Fw.s (Fw.val_move rfl) rfl ?_
  refine Fw.call cf34 rfl rfl (validEpoch_any _ g (k * 15) l[k] _ ((Fw.At.open_ Us.U.len hkn HO).rd Us.U.len)) ?_
  rintro e_ _ ⟨rfl, rfl⟩
  refine ⟨_, rfl, ?_⟩
  refine Fw.b2 ?_ ?_
  rintro hep
  refine Fw.s (Fw.val_not rfl) rfl ?_
  refine Fw.nil ?_
  refine hK16 _ _ (Fw.FC.sub (f' := [(40, _), (29, _), (28, _), (0, _), (1, _), (2, _), (3, _)]) (.cons rfl (.cons rfl (.cons rfl (.cons rfl (.cons rfl (.cons rfl (.cons rfl .nil))))))) ?_)
  refine Fw.condF rfl ?_
  refine Fw.skip ?_
  refine Fw.X_blockN ?_
  refine hK14 _ _ ?_
  refine Fw.region ?_
  refine Fw.s (Fw.val_bin rfl rfl (Fw.b_add (Fw.i64_ok (by omega)))) rfl ?_
  refine Fw.s (Fw.val_move rfl) rfl ?_
  refine Fw.nil ?_
  refine Fw.roundEnd _ _ (by omega) ⟨k + 1, rfl, hkn, by rw [Us.all_snoc _ _ _ hkn, hall, hep]; rfl, HP, HR, HO, HC, rfl⟩ (.cons rfl (.cons rfl (.cons rfl (.cons rfl (.cons rfl (.cons rfl .nil))))))
  rintro hep
  refine Fw.s (Fw.val_not rfl) rfl ?_
  refine Fw.nil ?_
  refine hK16 _ _ (Fw.FC.sub (f' := [(40, _), (29, _), (28, _), (0, _), (1, _), (2, _), (3, _)]) (.cons rfl (.cons rfl (.cons rfl (.cons rfl (.cons rfl (.cons rfl (.cons rfl .nil))))))) ?_)
  refine Fw.condT rfl ?_
  refine Fw.seq fun _ hK18 => ?_
  refine Fw.region ?_
  refine Fw.s (Fw.val_assign rfl) rfl ?_
  refine Fw.nil ?_
  refine hK18 _ _ (Fw.FC.sub (f' := [(8, _)]) (.cons rfl .nil) ?_)
  refine Fw.ret ?_
  refine Fw.X_blockR ?_
  refine Fw.X_ret ?_
  refine Fw.X_ret ?_
  refine Fw.X_blockR ?_
  refine Fw.X_ret ?_
  refine Fw.ret_ [.tmp 8] [_] Try.results12 (.tmp rfl .nil) ?_
  have ok : Us.quietOk l now n e = false := by
    unfold Us.quietOk; rw [show (l.all fun u => Us.epB u e) = false from by
      rw [List.all_eq_false]; exact ⟨l[k], List.getElem_mem hkn, by rw [hep]; decide⟩]; simp
  rw [show Us.quietW l now n e = [] by unfold Us.quietW; rw [ok]; rfl, show Us.quietL l now n e = l by unfold Us.quietL; rw [ok]; rfl]
  exact ⟨none, 0, rfl, ⟨rfl, .inl ⟨rfl, rfl⟩⟩, HR, HC⟩
  rintro hk
  refine Fw.nil ?_
  refine hK11 _ _ ?_
  refine Fw.seq fun _ hK19 => ?_
  refine Fw.condF rfl ?_
  refine Fw.exit ?_
  refine Fw.X_exit ?_
  refine Fw.X_exit ?_
  refine Fw.X_block ?_
  refine hK8 _ _ ?_
  refine Fw.seq fun _ hK20 => ?_
  refine Fw.region ?_
  refine Fw.s (Fw.val_assign rfl) rfl ?_
  refine Fw.nil ?_
  refine hK20 _ _ ?_
  refine Fw.seq fun _ hK21 => ?_
  refine Fw.seq fun _ hK22 => ?_
  have hok : Us.quietOk l now n e = true := by
    have : k = l.length := by omega
    subst this; rw [List.take_length] at hall
    unfold Us.quietOk; rw [hall, h2, decide_eq_true (by omega)]; rfl
  clear hall hkl
  refine Fw.region ?_
  refine Fw.s (Fw.val_move rfl) rfl ?_
  refine Fw.s (Fw.val_nil rfl) rfl ?_
  refine Fw.s (Fw.val_fieldAddr fl80_0 rfl rfl) rfl ?_
  refine Fw.ld sc78 rfl (HP.cell 0) rfl ?_
  refine Fw.s (Fw.val_len Try.underlying78 rfl) rfl ?_
  refine Fw.s (Fw.val_move rfl) rfl ?_
  refine Fw.nil ?_
  refine hK22 _ _ (Fw.FC.sub (f' := [(47, _), (46, _), (10, _), (0, _), (1, _), (2, _), (3, _)]) (.cons rfl (.cons rfl (.cons rfl (.cons rfl (.cons rfl (.cons rfl (.cons rfl .nil))))))) ?_)
  refine Fw.block ?_
  have HN : w1.ownsRow w.heap.size 3 1 (.slice none ([] : List Int).length 0) ([] : List Int).length (([] : List Int).map (.int .i64)) := ⟨rfl, .inl ⟨rfl, rfl⟩⟩
  replace HO : w1.ownsRow B 83 15 (.slice (some ⟨g, 0, none⟩) l.length c) l.length ((Fw.mix (l.map (fun u : Us.U => Us.quietU u now n e)) l 0).flatMap Us.U.cells) := by rw [Fw.mix_zero]; exact HO
  refine Fw.loop (fun m_ f_ W_ => ∃ (k : Nat) (r_ : List Int) (A_ : Option Addr) (c_ : Nat), m_ = l.length - k ∧ k ≤ l.length ∧ r_ = Us.idx (fun u => Us.late u now n) (l.take k) ∧ Blk W_ p 80 #[.slice (some ⟨g, 0, none⟩) l.length c] ∧ W_.ownsRow B 83 15 (.slice (some ⟨g, 0, none⟩) l.length c) l.length ((Fw.mix (l.map (fun u : Us.U => Us.quietU u now n e)) l k).flatMap Us.U.cells) ∧ W_.ownsRow w.heap.size 3 1 (.slice A_ r_.length c_) r_.length (r_.map (.int .i64)) ∧ Chg (· = g) w W_ ∧ f_ = [(47, .int .i64 k), (46, .int .i64 l.length), (10, .slice A_ r_.length c_), (0, .pointer (some ⟨p, 0, none⟩)), (1, .int .i64 now), (2, .int .i64 n), (3, .int .i64 e)]) ⟨_, _, ⟨0, [], none, 0, rfl, Nat.zero_le _, rfl, HP, HO, HN, HC, rfl⟩, (.cons rfl (.cons rfl (.cons rfl (.cons rfl (.cons rfl (.cons rfl (.cons rfl .nil)))))))⟩ ?_
  clear HP HO HN HC
  rintro m23_ _ w2 ⟨k, r_, A_, c_, hm23_, hkl, hr, HP, HO, HN, HC, rfl⟩
  refine Fw.seq fun _ hK24 => ?_
  refine Fw.region ?_
  refine Fw.s2 (Fw.val_bin rfl rfl Fw.b_lss) rfl ?_ ?_
  rintro hk2
  refine Fw.nil ?_
  refine hK24 _ _ ?_
  refine Fw.seq fun _ hK26 => ?_
  refine Fw.condT rfl ?_
  refine Fw.skip ?_
  refine hK26 _ _ ?_
  refine Fw.seq fun _ hK27 => ?_
  refine Fw.block ?_
  refine Fw.seq fun _ hK28 => ?_
  refine Fw.region ?_
  refine Fw.s (Fw.val_move rfl) rfl ?_
  refine Fw.s (Fw.val_assign rfl) rfl ?_
  refine Fw.nil ?_
  refine hK28 _ _ ?_
  refine Fw.seq fun _ hK29 => ?_
  have hkn : k < l.length := by omega
  have HAt := Fw.At.mopen (k := k) Us.U.len (by simp) hkn HO
  clear HO
  refine Fw.region ?_
  refine Fw.s (Fw.val_move rfl) rfl ?_
  refine Fw.s (Fw.val_nil rfl) rfl ?_
  refine Fw.s (Fw.val_fieldAddr fl80_0 rfl rfl) rfl ?_
  refine Fw.ld sc78 rfl (HP.cell 0) rfl ?_
  refine Fw.s (Fw.val_move rfl) rfl ?_
  refine Fw.s (Fw.val_indexR Try.underlying78 sz83 rfl rfl rfl rfl hkn (Fw.add0 g (k * 15))) rfl ?_
  refine Fw.s (Fw.val_assign rfl) rfl ?_
  refine Fw.nil ?_
  refine hK29 _ _ (Fw.FC.sub (f' := [(12, _), (11, _), (47, _), (46, _), (10, _), (0, _), (1, _), (2, _), (3, _)]) (.cons rfl (.cons rfl (.cons rfl (.cons rfl (.cons rfl (.cons rfl (.cons rfl (.cons rfl (.cons rfl .nil))))))))) ?_)
  refine Fw.seq fun _ hK31 => ?_
  refine Fw.seq fun _ hK32 => ?_
  refine Fw.region ?_
  refine Fw.s (Fw.val_move rfl) rfl ?_
  refine Fw.s (Fw.val_nil rfl) rfl ?_
  refine Fw.s (Fw.val_fieldAddr fl83_0 rfl rfl) rfl ?_
  refine Fw.s (Fw.val_fieldAddr fl69_3 rfl rfl) rfl ?_
  refine Fw.ld sc3 rfl (HAt.cell Us.U.len 3 rfl) rfl ?_
  refine Fw.s2 (Fw.val_bin rfl rfl Fw.b_eql) rfl ?_ ?_
  rintro hl1
  refine Fw.s (Fw.val_move rfl) rfl ?_
  refine Fw.gF (d := 62) rfl rfl rfl rfl ?_
  refine Fw.gF (d := 62) rfl rfl rfl rfl ?_
  refine Fw.gF (d := 62) rfl rfl rfl rfl ?_
  refine Fw.gF (d := 62) rfl rfl rfl rfl ?_
  refine Fw.gF (d := 62) rfl rfl rfl rfl ?_
  refine Fw.gF (d := 62) rfl rfl rfl rfl ?_
  refine Fw.s (Fw.val_pickT rfl rfl) rfl ?_
  refine Fw.s (Fw.val_move rfl) rfl ?_
  refine Fw.gF (d := 70) rfl rfl rfl rfl ?_
  refine Fw.gF (d := 70) rfl rfl rfl rfl ?_
  refine Fw.gF (d := 70) rfl rfl rfl rfl ?_
  refine Fw.gF (d := 70) rfl rfl rfl rfl ?_
  refine Fw.gF (d := 70) rfl rfl rfl rfl ?_
  refine Fw.gF (d := 70) rfl rfl rfl rfl ?_
  refine Fw.gF (d := 70) rfl rfl rfl rfl ?_
  refine Fw.gF (d := 70) rfl rfl rfl rfl ?_
  refine Fw.gF (d := 70) rfl rfl rfl rfl ?_
  refine Fw.s (Fw.val_pickT rfl rfl) rfl ?_
  refine Fw.nil ?_
  refine hK32 _ _ (Fw.FC.sub (f' := [(80, _), (79, _), (78, _), (77, _), (76, _), (75, _), (74, _), (73, _), (72, _), (71, _), (68, _), (67, _), (66, _), (65, _), (64, _), (63, _), (12, _), (11, _), (47, _), (46, _), (10, _), (0, _), (1, _), (2, _), (3, _)]) (.cons rfl (.cons rfl (.cons rfl (.cons rfl (.cons rfl (.cons rfl (.cons rfl (.cons rfl (.cons rfl (.cons rfl (.cons rfl (.cons rfl (.cons rfl (.cons rfl (.cons rfl (.cons rfl (.cons rfl (.cons rfl (.cons rfl (.cons rfl (.cons rfl (.cons rfl (.cons rfl (.cons rfl (.cons rfl .nil))))))))))))))))))))))))) ?_)
  refine Fw.condT rfl ?_
  refine Fw.exit ?_
  refine Fw.X_exit ?_
  refine Fw.X_block ?_
  refine hK27 _ _ ?_
  refine Fw.region ?_
  refine Fw.s (Fw.val_bin rfl rfl (Fw.b_add (Fw.i64_ok (by omega)))) rfl ?_
  refine Fw.s (Fw.val_move rfl) rfl ?_
  refine Fw.nil ?_
  have hlate : Us.late l[k] now n = false := decide_eq_false (by omega)
  have HO := Fw.At.mclose (by simp) hkn (l[k]) (by rw [List.getElem_map]; exact if_neg (by rw [hlate]; decide)) HAt
  clear HAt
  refine Fw.roundEnd _ _ (by omega) ⟨k + 1, r_, A_, c_, rfl, hkn, by rw [hr, Us.idx_snoc _ _ _ hkn, if_neg (by rw [hlate]; decide), List.append_nil], HP, HO, HN, HC, rfl⟩ (.cons rfl (.cons rfl (.cons rfl (.cons rfl (.cons rfl (.cons rfl (.cons rfl .nil)))))))
  rintro hl1
  refine Fw.s (Fw.val_move rfl) rfl ?_
  refine Fw.gT (d := 62) rfl rfl ?_
  refine Fw.s (Fw.val_move rfl) rfl ?_
  refine Fw.gT (d := 62) rfl rfl ?_
  refine Fw.s (Fw.val_nil rfl) rfl ?_
  refine Fw.gT (d := 62) rfl rfl ?_
  refine Fw.s (Fw.val_fieldAddr fl83_0 rfl rfl) rfl ?_
  refine Fw.gT (d := 62) rfl rfl ?_
  refine Fw.s (Fw.val_fieldAddr fl69_3 rfl rfl) rfl ?_
  refine Fw.gT (d := 62) rfl rfl ?_
  refine Fw.ld sc3 rfl (HAt.cell Us.U.len 3 rfl) rfl ?_
  refine Fw.gT (d := 62) rfl rfl ?_
  refine Fw.s2 (Fw.val_bin rfl rfl Fw.b_eql) rfl ?_ ?_
  rintro hl2
  refine Fw.s (Fw.val_pickF rfl rfl) rfl ?_
  refine Fw.s (Fw.val_move rfl) rfl ?_
  refine Fw.gF (d := 70) rfl rfl rfl rfl ?_
  refine Fw.gF (d := 70) rfl rfl rfl rfl ?_
  refine Fw.gF (d := 70) rfl rfl rfl rfl ?_
  refine Fw.gF (d := 70) rfl rfl rfl rfl ?_
  refine Fw.gF (d := 70) rfl rfl rfl rfl ?_
  refine Fw.gF (d := 70) rfl rfl rfl rfl ?_
  refine Fw.gF (d := 70) rfl rfl rfl rfl ?_
  refine Fw.gF (d := 70) rfl rfl rfl rfl ?_
  refine Fw.gF (d := 70) rfl rfl rfl rfl ?_
  refine Fw.s (Fw.val_pickT rfl rfl) rfl ?_
  refine Fw.nil ?_
  refine hK32 _ _ (Fw.FC.sub (f' := [(80, _), (79, _), (78, _), (77, _), (76, _), (75, _), (74, _), (73, _), (72, _), (71, _), (68, _), (67, _), (66, _), (65, _), (64, _), (63, _), (12, _), (11, _), (47, _), (46, _), (10, _), (0, _), (1, _), (2, _), (3, _)]) (.cons rfl (.cons rfl (.cons rfl (.cons rfl (.cons rfl (.cons rfl (.cons rfl (.cons rfl (.cons rfl (.cons rfl (.cons rfl (.cons rfl (.cons rfl (.cons rfl (.cons rfl (.cons rfl (.cons rfl (.cons rfl (.cons rfl (.cons rfl (.cons rfl (.cons rfl (.cons rfl (.cons rfl (.cons rfl .nil))))))))))))))))))))))))) ?_)
  refine Fw.condT rfl ?_
  refine Fw.exit ?_
  refine Fw.X_exit ?_
  refine Fw.X_block ?_
  refine hK27 _ _ ?_
  refine Fw.region ?_
  refine Fw.s (Fw.val_bin rfl rfl (Fw.b_add (Fw.i64_ok (by omega)))) rfl ?_
  refine Fw.s (Fw.val_move rfl) rfl ?_
  refine Fw.nil ?_
  have hlate : Us.late l[k] now n = false := decide_eq_false (by omega)
  have HO := Fw.At.mclose (by simp) hkn (l[k]) (by rw [List.getElem_map]; exact if_neg (by rw [hlate]; decide)) HAt
  clear HAt
  refine Fw.roundEnd _ _ (by omega) ⟨k + 1, r_, A_, c_, rfl, hkn, by rw [hr, Us.idx_snoc _ _ _ hkn, if_neg (by rw [hlate]; decide), List.append_nil], HP, HO, HN, HC, rfl⟩ (.cons rfl (.cons rfl (.cons rfl (.cons rfl (.cons rfl (.cons rfl (.cons rfl .nil)))))))
  rintro hl2
  refine Fw.s (Fw.val_pickF rfl rfl) rfl ?_
  refine Fw.s (Fw.val_move rfl) rfl ?_
  refine Fw.gT (d := 70) rfl rfl ?_
  refine Fw.s (Fw.val_move rfl) rfl ?_
  refine Fw.gT (d := 70) rfl rfl ?_
  refine Fw.s (Fw.val_move rfl) rfl ?_
  refine Fw.gT (d := 70) rfl rfl ?_
  refine Fw.s (Fw.val_nil rfl) rfl ?_
  refine Fw.gT (d := 70) rfl rfl ?_
  refine Fw.s (Fw.val_fieldAddr fl83_0 rfl rfl) rfl ?_
  refine Fw.gT (d := 70) rfl rfl ?_
  refine Fw.s (Fw.val_fieldAddr fl69_6 rfl rfl) rfl ?_
  refine Fw.gT (d := 70) rfl rfl ?_
  refine Fw.ld sc2 rfl (HAt.cell Us.U.len 6 rfl) rfl ?_
  refine Fw.gT (d := 70) rfl rfl ?_
  refine Fw.s (Fw.val_bin rfl rfl (Fw.b_sub rfl)) rfl ?_
  refine Fw.gT (d := 70) rfl rfl ?_
  refine Fw.s (Fw.val_move rfl) rfl ?_
  refine Fw.gT (d := 70) rfl rfl ?_
  refine Fw.s2 (Fw.val_bin rfl rfl Fw.b_lss) rfl ?_ ?_
  rintro hl3
  refine Fw.s (Fw.val_pickF rfl rfl) rfl ?_
  refine Fw.nil ?_
  refine hK32 _ _ (Fw.FC.sub (f' := [(80, _), (79, _), (78, _), (77, _), (76, _), (75, _), (74, _), (73, _), (72, _), (71, _), (68, _), (67, _), (66, _), (65, _), (64, _), (63, _), (12, _), (11, _), (47, _), (46, _), (10, _), (0, _), (1, _), (2, _), (3, _)]) (.cons rfl (.cons rfl (.cons rfl (.cons rfl (.cons rfl (.cons rfl (.cons rfl (.cons rfl (.cons rfl (.cons rfl (.cons rfl (.cons rfl (.cons rfl (.cons rfl (.cons rfl (.cons rfl (.cons rfl (.cons rfl (.cons rfl (.cons rfl (.cons rfl (.cons rfl (.cons rfl (.cons rfl (.cons rfl .nil))))))))))))))))))))))))) ?_)
  refine Fw.condT rfl ?_
  refine Fw.exit ?_
  refine Fw.X_exit ?_
  refine Fw.X_block ?_
  refine hK27 _ _ ?_
  refine Fw.region ?_
  refine Fw.s (Fw.val_bin rfl rfl (Fw.b_add (Fw.i64_ok (by omega)))) rfl ?_
  refine Fw.s (Fw.val_move rfl) rfl ?_
  refine Fw.nil ?_
  have hlate : Us.late l[k] now n = false := decide_eq_false (by omega)
  have HO := Fw.At.mclose (by simp) hkn (l[k]) (by rw [List.getElem_map]; exact if_neg (by rw [hlate]; decide)) HAt
  clear HAt
  refine Fw.roundEnd _ _ (by omega) ⟨k + 1, r_, A_, c_, rfl, hkn, by rw [hr, Us.idx_snoc _ _ _ hkn, if_neg (by rw [hlate]; decide), List.append_nil], HP, HO, HN, HC, rfl⟩ (.cons rfl (.cons rfl (.cons rfl (.cons rfl (.cons rfl (.cons rfl (.cons rfl .nil)))))))
  rintro hl3
  refine Fw.s (Fw.val_pickF rfl rfl) rfl ?_
  refine Fw.nil ?_
  refine hK32 _ _ (Fw.FC.sub (f' := [(80, _), (79, _), (78, _), (77, _), (76, _), (75, _), (74, _), (73, _), (72, _), (71, _), (68, _), (67, _), (66, _), (65, _), (64, _), (63, _), (12, _), (11, _), (47, _), (46, _), (10, _), (0, _), (1, _), (2, _), (3, _)]) (.cons rfl (.cons rfl (.cons rfl (.cons rfl (.cons rfl (.cons rfl (.cons rfl (.cons rfl (.cons rfl (.cons rfl (.cons rfl (.cons rfl (.cons rfl (.cons rfl (.cons rfl (.cons rfl (.cons rfl (.cons rfl (.cons rfl (.cons rfl (.cons rfl (.cons rfl (.cons rfl (.cons rfl (.cons rfl .nil))))))))))))))))))))))))) ?_)
  refine Fw.condF rfl ?_
  refine Fw.skip ?_
  refine hK31 _ _ ?_
  refine Fw.seq fun _ hK36 => ?_
  have hlate : Us.late l[k] now n = true := decide_eq_true (by omega)
  refine Fw.region ?_
  refine Fw.s (Fw.val_move rfl) rfl ?_
  refine Fw.s (Fw.val_nil rfl) rfl ?_
  refine Fw.s (Fw.val_fieldAddr fl83_0 rfl rfl) rfl ?_
  refine Fw.s (Fw.val_fieldAddr fl69_3 rfl rfl) rfl ?_
  refine Fw.storeI Us.U.len sz3 rfl rfl HAt rfl rfl rfl ?_
  intro w3 N_ hc
  replace HP := HP.chg hc (by omega)
  replace HN := own_to HN hc (fun g_ h_ e_ => by have := (HN.lt g_ (by rw [ownBlock_slice]; exact h_)).1; omega)
  replace HC := HC.trans hc (fun k hk_ e => by first | exact e | (left; exact e) | (right; exact e) | (exfalso; omega))
  clear hc
  clear HAt
  have HAt := N_
  clear N_
  refine Fw.nil ?_
  refine hK36 _ _ ?_
  refine Fw.seq fun _ hK37 => ?_
  refine Fw.region ?_
  refine Fw.s (Fw.val_move rfl) rfl ?_
  refine Fw.call cf36 rfl rfl (release_any _ B g c k (Fw.mix (l.map (fun u : Us.U => Us.quietU u now n e)) l k) { l[k] with state := 7 } HAt) ?_
  rintro e_ w4 ⟨rfl, HAt_, hc⟩
  refine ⟨_, rfl, ?_⟩
  replace HP := HP.chg hc (by omega)
  replace HN := own_to HN hc (fun g_ h_ e_ => by have := (HN.lt g_ (by rw [ownBlock_slice]; exact h_)).1; omega)
  replace HC := HC.trans hc (fun k hk_ e => by first | exact e | (left; exact e) | (right; exact e) | (exfalso; omega))
  clear hc
  clear HAt
  have HAt := HAt_
  clear HAt_
  refine Fw.nil ?_
  refine hK37 _ _ (Fw.FC.sub (f' := [(79, _), (78, _), (77, _), (76, _), (75, _), (74, _), (73, _), (72, _), (71, _), (68, _), (67, _), (66, _), (65, _), (64, _), (63, _), (12, _), (11, _), (47, _), (46, _), (10, _), (0, _), (1, _), (2, _), (3, _)]) (.cons rfl (.cons rfl (.cons rfl (.cons rfl (.cons rfl (.cons rfl (.cons rfl (.cons rfl (.cons rfl (.cons rfl (.cons rfl (.cons rfl (.cons rfl (.cons rfl (.cons rfl (.cons rfl (.cons rfl (.cons rfl (.cons rfl (.cons rfl (.cons rfl (.cons rfl (.cons rfl (.cons rfl .nil)))))))))))))))))))))))) ?_)
  refine Fw.seq fun _ hK38 => ?_
  refine Fw.region ?_
  refine Fw.s (Fw.val_move rfl) rfl ?_
  refine Fw.s (Fw.val_move rfl) rfl ?_
  refine Fw.call cf35 rfl rfl (issue_any _ B g c k (Fw.mix (l.map (fun u : Us.U => Us.quietU u now n e)) l k) { l[k] with state := 7, inc := 0 } e 2 0 0 HAt) ?_
  rintro e_ w5 ⟨rfl, HAt_, hc⟩
  refine ⟨_, rfl, ?_⟩
  replace HP := HP.chg hc (by omega)
  replace HN := own_to HN hc (fun g_ h_ e_ => by have := (HN.lt g_ (by rw [ownBlock_slice]; exact h_)).1; omega)
  replace HC := HC.trans hc (fun k hk_ e => by first | exact e | (left; exact e) | (right; exact e) | (exfalso; omega))
  clear hc
  clear HAt
  have HAt := HAt_
  clear HAt_
  refine Fw.nil ?_
  refine hK38 _ _ ?_
  refine Fw.region ?_
  refine Fw.s (Fw.val_move rfl) rfl ?_
  refine Fw.s (Fw.val_move rfl) rfl ?_
  refine Fw.buildSlice [_] sl47 rfl rfl (by exact Fw.allSz rfl) (by decide) rfl ?_
  intro w6 gS92 egS92 HS92 hb
  have n_p_gS92 : p < gS92 := by have := HP.lt; omega
  have lgS92 : w.heap.size ≤ gS92 := by have := HC.size; omega
  replace HP := HP.low hb
  replace HN := own_below HN hb (Nat.le_refl _)
  replace HAt := HAt.low hb
  replace HC := HC.trans (Chg.of_below hb (· = g)) (fun _ _ h => h)
  clear hb
  clear egS92
  have hNr := Us.idx_len (fun u => Us.late u now n) (l.take k)
  refine Fw.append (r_ ++ [(k : Int)]).length ((r_ ++ [(k : Int)]).map (.int .i64)) sl47 rfl rfl HN (show Rd _ _ [.int .i64 (k : Int)] from Fw.rdBlk HS92) rfl (Fw.oneCellsL rfl) (by rw [hr]; have := List.length_take (i := k) (l := l); unfold maxLen; omega) HC.size (by simp) (by rw [List.map_append]; rfl) rfl ?_
  intro A' c' w7 N_ hbb hc _
  have hfar : ∀ k, some k = (Value.slice A_ r_.length c_).ownBlock → w.heap.size ≤ k := fun k hk_ => (HN.lt k hk_.symm).1
  replace HP := HP.chg hc (fun hk_ => by have := hfar _ hk_; omega)
  replace HAt := HAt.chg hc (fun hk_ => by have := hfar _ hk_; omega)
  replace HC := HC.trans hc (fun k_ hk_ e_ => by have := hfar _ e_; omega)
  clear hbb hc HN hfar
  have HN := N_
  clear N_
  refine Fw.s (Fw.val_assign rfl) rfl ?_
  refine Fw.nil ?_
  refine Fw.X_blockN ?_
  refine hK27 _ _ (Fw.FC.sub (f' := [(10, _), (79, _), (78, _), (77, _), (76, _), (75, _), (74, _), (73, _), (72, _), (71, _), (68, _), (67, _), (66, _), (65, _), (64, _), (63, _), (47, _), (46, _), (0, _), (1, _), (2, _), (3, _)]) (.cons rfl (.cons rfl (.cons rfl (.cons rfl (.cons rfl (.cons rfl (.cons rfl (.cons rfl (.cons rfl (.cons rfl (.cons rfl (.cons rfl (.cons rfl (.cons rfl (.cons rfl (.cons rfl (.cons rfl (.cons rfl (.cons rfl (.cons rfl (.cons rfl (.cons rfl .nil)))))))))))))))))))))) ?_)
  refine Fw.region ?_
  refine Fw.s (Fw.val_bin rfl rfl (Fw.b_add (Fw.i64_ok (by omega)))) rfl ?_
  refine Fw.s (Fw.val_move rfl) rfl ?_
  refine Fw.nil ?_
  have HO := Fw.At.mclose (by simp) hkn (Us.issue { l[k] with state := 7, inc := 0 } e 2 0 0) (by rw [List.getElem_map]; exact if_pos hlate) HAt
  clear HAt
  refine Fw.roundEnd _ _ (by omega) ⟨k + 1, r_ ++ [(k : Int)], A', c', rfl, hkn, by rw [hr, Us.idx_snoc _ _ _ hkn, if_pos hlate], HP, HO, HN, HC, rfl⟩ (.cons rfl (.cons rfl (.cons rfl (.cons rfl (.cons rfl (.cons rfl (.cons rfl .nil)))))))
  rintro hk2
  refine Fw.nil ?_
  refine hK24 _ _ ?_
  refine Fw.seq fun _ hK39 => ?_
  refine Fw.condF rfl ?_
  refine Fw.exit ?_
  refine Fw.X_exit ?_
  refine Fw.X_exit ?_
  refine Fw.X_block ?_
  refine hK21 _ _ (Fw.FC.sub (f' := [(10, _)]) (.cons rfl .nil) ?_)
  refine Fw.seq fun _ hK40 => ?_
  refine Fw.region ?_
  refine Fw.s (Fw.val_move rfl) rfl ?_
  refine Fw.s (Fw.val_assign rfl) rfl ?_
  refine Fw.nil ?_
  refine hK40 _ _ ?_
  refine Fw.ret ?_
  refine Fw.ret_ [.tmp 8] [_] Try.results12 (.tmp rfl .nil) ?_
  obtain rfl : k = l.length := by omega
  rw [List.take_length] at hr
  subst hr
  rw [show Us.quietW l now n e = _ from if_pos hok, show Us.quietL l now n e = l.map (fun u : Us.U => Us.quietU u now n e) from if_pos hok]
  exact ⟨_, _, rfl, HN, RegAt.map _ hBp hBg HP HO rfl, HC⟩
  rintro h2
  refine Fw.gT (d := 15) rfl rfl ?_
  refine Fw.s (Fw.val_not rfl) rfl ?_
  refine Fw.s (Fw.val_pickF rfl rfl) rfl ?_
  refine Fw.s (Fw.val_move rfl) rfl ?_
  refine Fw.gF (d := 20) rfl rfl rfl rfl ?_
  refine Fw.gF (d := 20) rfl rfl rfl rfl ?_
  refine Fw.s (Fw.val_pickT rfl rfl) rfl ?_
  refine Fw.nil ?_
  refine hK3 _ _ (Fw.FC.sub (f' := [(23, _), (0, _), (1, _), (2, _), (3, _)]) (.cons rfl (.cons rfl (.cons rfl (.cons rfl (.cons rfl .nil))))) ?_)
  refine Fw.condT rfl ?_
  refine Fw.seq fun _ hK41 => ?_
  refine Fw.region ?_
  refine Fw.s (Fw.val_assign rfl) rfl ?_
  refine Fw.nil ?_
  refine hK41 _ _ ?_
  refine Fw.ret ?_
  refine Fw.X_ret ?_
  refine Fw.ret_ [.tmp 8] [_] Try.results12 (.tmp rfl .nil) ?_
  have ok : Us.quietOk l now n e = false := by unfold Us.quietOk; rw [h2]; simp
  rw [show Us.quietW l now n e = [] by unfold Us.quietW; rw [ok]; rfl, show Us.quietL l now n e = l by unfold Us.quietL; rw [ok]; rfl]
  exact ⟨none, 0, rfl, ⟨rfl, .inl ⟨rfl, rfl⟩⟩, HR, HC⟩

set_option maxRecDepth 100000 in
set_option maxHeartbeats 1000000 in
theorem usNew_any (w : World) (A : Option Addr) (l : List Us.Cfg) (c : Nat) (h : Rd w A (l.flatMap Us.Cfg.cells)) : Calls Try.prog 6 #[.slice A l.length c] w fun e_ w' => ∃ x, e_ = .returned (.tuple #[.pointer x, .int .i64 (Us.newE l)]) ∧ (Us.newE l ≠ 0 → x = none) ∧ (Us.newE l = 0 → ∃ p g, x = some ⟨p, 0, none⟩ ∧ RegAt w' w.heap.size p g l.length (Us.newL l)) ∧ Below w.heap.size w w' := by
  refine Fw.calls Try.func6 rfl Try.ntmps6 rfl ?_
  have HB := Below.refl (w.heap.size) w
  refine Fw.seq fun _ hK1 => ?_
  refine Fw.region ?_
  refine Fw.s (Fw.val_assign rfl) rfl ?_
  refine Fw.s (Fw.val_assign rfl) rfl ?_
  refine Fw.nil ?_
  refine hK1 _ _ ?_
  refine Fw.seq fun _ hK2 => ?_
  refine Fw.seq fun _ hK3 => ?_
  refine Fw.region ?_
  refine Fw.s (Fw.val_move rfl) rfl ?_
  refine Fw.s (Fw.val_len Try.underlying36 rfl) rfl ?_
  refine Fw.s2 (Fw.val_bin rfl rfl Fw.b_gtr) rfl ?_ ?_
  rintro hbig
  refine Fw.nil ?_
  refine hK3 _ _ ?_
  refine Fw.condT rfl ?_
  refine Fw.seq fun _ hK5 => ?_
  refine Fw.region ?_
  refine Fw.s (Fw.val_assign rfl) rfl ?_
  refine Fw.s (Fw.val_assign rfl) rfl ?_
  refine Fw.nil ?_
  refine hK5 _ _ ?_
  refine Fw.ret ?_
  refine Fw.X_ret ?_
  refine Fw.ret_ [.tmp 2, .tmp 3] [_, _] Try.results6 (.tmp rfl (.tmp rfl .nil)) ?_
  have hE : Us.newE l = 3 := by unfold Us.newE; rw [if_pos (by omega)]
  rw [hE]
  exact ⟨_, rfl, fun _ => rfl, fun h_ => by simp at h_, HB⟩
  rintro hbig
  refine Fw.nil ?_
  refine hK3 _ _ ?_
  refine Fw.condF rfl ?_
  refine Fw.skip ?_
  refine hK2 _ _ ?_
  refine Fw.seq fun _ hK6 => ?_
  refine Fw.region ?_
  refine Fw.s (Fw.val_move rfl) rfl ?_
  refine Fw.s (Fw.val_len Try.underlying36 rfl) rfl ?_
  refine Fw.makeG l.length sl78 zi83 rfl rfl rfl rfl (by omega) (by unfold maxLen; omega) HB.size rfl ?_
  intro w1 gN egN HN hb
  rw [Fw.made (cells := Us.U.cells) (m := 15) Us.zero (Value.cells (.agg #[.int .i64 0, .int .i64 0, .int .i64 0, .int .i64 0, .int .i64 0, .int .i64 0, .int .i64 0, .int .i64 0, .int .i64 0, .int .i64 0, .int .i64 0, .int .i64 0, .int .i64 0, .int .i64 0, .int .i64 0])) rfl rfl] at HN
  have lgN : w.heap.size ≤ gN := by have := HB.size; omega
  replace HB := HB.trans (hb.mono HB.size)
  clear hb
  clear egN
  have hmz : (Us.newL l).length = (List.replicate l.length Us.zero).length := by rw [Us.newL_len, List.length_replicate]
  have hrz : (List.replicate l.length Us.zero).length = l.length := List.length_replicate
  refine Fw.s (Fw.val_build (ps := [(0, _)]) rfl (bu80_0 _ _ _)) rfl ?_
  refine Fw.box rfl rfl ?_
  intro w2 gX14 egX14 HX14 hb
  have lgX14 : w.heap.size ≤ gX14 := by have := HB.size; omega
  replace HN := own_below HN hb (Nat.le_refl _)
  replace HB := HB.trans (hb.mono HB.size)
  clear hb
  clear egX14
  refine Fw.s (Fw.val_assign rfl) rfl ?_
  refine Fw.nil ?_
  refine hK6 _ _ (Fw.FC.sub (f' := [(4, _), (0, _)]) (.cons rfl (.cons rfl .nil)) ?_)
  refine Fw.seq fun _ hK7 => ?_
  refine Fw.seq fun _ hK8 => ?_
  refine Fw.region ?_
  refine Fw.s (Fw.val_move rfl) rfl ?_
  refine Fw.s (Fw.val_len Try.underlying36 rfl) rfl ?_
  refine Fw.s (Fw.val_move rfl) rfl ?_
  refine Fw.nil ?_
  refine hK8 _ _ ?_
  refine Fw.block ?_
  replace HN : w2.ownsRow w.heap.size 83 15 (.slice (some ⟨gN, 0, none⟩) l.length l.length) l.length ((Fw.mix (Us.newL l) (List.replicate l.length Us.zero) 0).flatMap Us.U.cells) := by rw [Fw.mix_zero]; exact HN
  replace HX14 : Blk w2 gX14 80 #[.slice (some ⟨gN, 0, none⟩) l.length l.length] := HX14
  refine Fw.loop (fun m_ f_ W_ => ∃ (k : Nat), m_ = l.length - k ∧ k ≤ l.length ∧ (l.take k).all Us.cfgB = true ∧ W_.ownsRow w.heap.size 83 15 (.slice (some ⟨gN, 0, none⟩) l.length l.length) l.length ((Fw.mix (Us.newL l) (List.replicate l.length Us.zero) k).flatMap Us.U.cells) ∧ Blk W_ gX14 80 #[.slice (some ⟨gN, 0, none⟩) l.length l.length] ∧ Below (w.heap.size) w W_ ∧ f_ = [(17, .int .i64 k), (16, .int .i64 l.length), (15, .slice A l.length c), (4, .pointer (some ⟨gX14, 0, none⟩))]) ⟨_, _, ⟨0, rfl, Nat.zero_le _, rfl, HN, HX14, HB, rfl⟩, (.cons rfl (.cons rfl (.cons rfl (.cons rfl .nil))))⟩ ?_
  clear HN HX14 HB
  rintro m9_ _ w3 ⟨k, hm9_, hkl, hall, HN, HX14, HB, rfl⟩
  refine Fw.seq fun _ hK10 => ?_
  refine Fw.region ?_
  refine Fw.s2 (Fw.val_bin rfl rfl Fw.b_lss) rfl ?_ ?_
  rintro hk
  refine Fw.nil ?_
  refine hK10 _ _ ?_
  refine Fw.seq fun _ hK12 => ?_
  refine Fw.condT rfl ?_
  refine Fw.skip ?_
  refine hK12 _ _ ?_
  refine Fw.seq fun _ hK13 => ?_
  refine Fw.block ?_
  refine Fw.seq fun _ hK14 => ?_
  have hkn : k < l.length := by omega
  obtain ⟨ad, b, o, hA, hadd, HE⟩ := Fw.rdAt Us.Cfg.len (by decide) (h.low HB) k hkn
  refine Fw.region ?_
  refine Fw.s (Fw.val_move rfl) rfl ?_
  refine Fw.s (Fw.val_indexR Try.underlying36 sz35 rfl hA rfl rfl hkn hadd) rfl ?_
  refine Fw.ldA ag35 rfl (HE) rfl rfl ?_
  refine Fw.alloc ze35 rfl ?_
  intro w4 gX6 egX6 HX6 hb
  have n_gX14_gX6 : gX14 < gX6 := by have := HX14.lt; omega
  have lgX6 : w.heap.size ≤ gX6 := by have := HB.size; omega
  clear HE
  replace HN := own_below HN hb (Nat.le_refl _)
  replace HX14 := HX14.low hb
  replace HB := HB.trans (hb.mono HB.size)
  clear hb
  clear egX6
  refine Fw.s (Fw.val_assign rfl) rfl ?_
  refine Fw.storeW sz35 rfl rfl HX6 rfl rfl (by exact Fw.oneCells rfl) ?_
  intro w5 N_ hc
  replace HN := own_to HN hc (fun g_ h_ e_ => own_ne HN HX6 (by decide) (by rw [h_, e_]))
  replace HX14 := HX14.chg hc (by omega)
  replace HB := HB.trans (hc.below (B := w.heap.size) (fun k e => by omega) HB.size)
  clear hc
  clear HX6
  have HX6 := N_
  clear N_
  refine Fw.nil ?_
  refine hK14 _ _ ?_
  refine Fw.seq fun _ hK16 => ?_
  refine Fw.seq fun _ hK17 => ?_
  refine Fw.region ?_
  refine Fw.s (Fw.val_fieldAddr fl35_0 rfl rfl) rfl ?_
  refine Fw.ld sc3 rfl (HX6.cell 0) rfl ?_
  refine Fw.s2 (Fw.val_bin rfl rfl Fw.b_lss) rfl ?_ ?_
  rintro hq1
  refine Fw.s (Fw.val_move rfl) rfl ?_
  refine Fw.gF (d := 25) rfl rfl rfl rfl ?_
  refine Fw.gF (d := 25) rfl rfl rfl rfl ?_
  refine Fw.gF (d := 25) rfl rfl rfl rfl ?_
  refine Fw.s (Fw.val_pickT rfl rfl) rfl ?_
  refine Fw.s (Fw.val_move rfl) rfl ?_
  refine Fw.gF (d := 30) rfl rfl rfl rfl ?_
  refine Fw.gF (d := 30) rfl rfl rfl rfl ?_
  refine Fw.gF (d := 30) rfl rfl rfl rfl ?_
  refine Fw.s (Fw.val_pickT rfl rfl) rfl ?_
  refine Fw.s (Fw.val_move rfl) rfl ?_
  refine Fw.gF (d := 35) rfl rfl rfl rfl ?_
  refine Fw.gF (d := 35) rfl rfl rfl rfl ?_
  refine Fw.gF (d := 35) rfl rfl rfl rfl ?_
  refine Fw.gF (d := 35) rfl rfl rfl rfl ?_
  refine Fw.s (Fw.val_pickT rfl rfl) rfl ?_
  refine Fw.nil ?_
  refine hK17 _ _ (Fw.FC.sub (f' := [(40, _), (39, _), (38, _), (37, _), (36, _), (33, _), (32, _), (31, _), (28, _), (27, _), (26, _), (5, _), (6, _), (17, _), (16, _), (15, _), (4, _)]) (.cons rfl (.cons rfl (.cons rfl (.cons rfl (.cons rfl (.cons rfl (.cons rfl (.cons rfl (.cons rfl (.cons rfl (.cons rfl (.cons rfl (.cons rfl (.cons rfl (.cons rfl (.cons rfl (.cons rfl .nil))))))))))))))))) ?_)
  refine Fw.condT rfl ?_
  refine Fw.seq fun _ hK19 => ?_
  refine Fw.region ?_
  refine Fw.s (Fw.val_assign rfl) rfl ?_
  refine Fw.s (Fw.val_assign rfl) rfl ?_
  refine Fw.nil ?_
  refine hK19 _ _ (Fw.FC.sub (f' := [(3, _), (2, _)]) (.cons rfl (.cons rfl .nil)) ?_)
  refine Fw.ret ?_
  refine Fw.X_ret ?_
  refine Fw.X_blockR ?_
  refine Fw.X_ret ?_
  refine Fw.X_ret ?_
  refine Fw.X_blockR ?_
  refine Fw.X_ret ?_
  refine Fw.ret_ [.tmp 2, .tmp 3] [_, _] Try.results6 (.tmp rfl (.tmp rfl .nil)) ?_
  have hE : Us.newE l = 1 := by
    unfold Us.newE; rw [if_neg (by omega), if_neg]
    intro hal
    have := List.all_eq_true.1 hal l[k] (List.getElem_mem hkn)
    rw [show Us.cfgB l[k] = false from by unfold Us.cfgB; rw [decide_eq_false (by omega)]; rfl] at this; cases this
  rw [hE]
  exact ⟨_, rfl, fun _ => rfl, fun h_ => by simp at h_, HB⟩
  rintro hq1
  refine Fw.s (Fw.val_move rfl) rfl ?_
  refine Fw.gT (d := 25) rfl rfl ?_
  refine Fw.s (Fw.val_fieldAddr fl35_0 rfl rfl) rfl ?_
  refine Fw.gT (d := 25) rfl rfl ?_
  refine Fw.ld sc3 rfl (HX6.cell 0) rfl ?_
  refine Fw.gT (d := 25) rfl rfl ?_
  refine Fw.s2 (Fw.val_bin rfl rfl Fw.b_gtr) rfl ?_ ?_
  rintro hq2
  refine Fw.s (Fw.val_pickF rfl rfl) rfl ?_
  refine Fw.s (Fw.val_move rfl) rfl ?_
  refine Fw.gF (d := 30) rfl rfl rfl rfl ?_
  refine Fw.gF (d := 30) rfl rfl rfl rfl ?_
  refine Fw.gF (d := 30) rfl rfl rfl rfl ?_
  refine Fw.s (Fw.val_pickT rfl rfl) rfl ?_
  refine Fw.s (Fw.val_move rfl) rfl ?_
  refine Fw.gF (d := 35) rfl rfl rfl rfl ?_
  refine Fw.gF (d := 35) rfl rfl rfl rfl ?_
  refine Fw.gF (d := 35) rfl rfl rfl rfl ?_
  refine Fw.gF (d := 35) rfl rfl rfl rfl ?_
  refine Fw.s (Fw.val_pickT rfl rfl) rfl ?_
  refine Fw.nil ?_
  refine hK17 _ _ (Fw.FC.sub (f' := [(40, _), (39, _), (38, _), (37, _), (36, _), (33, _), (32, _), (31, _), (28, _), (27, _), (26, _), (5, _), (6, _), (17, _), (16, _), (15, _), (4, _)]) (.cons rfl (.cons rfl (.cons rfl (.cons rfl (.cons rfl (.cons rfl (.cons rfl (.cons rfl (.cons rfl (.cons rfl (.cons rfl (.cons rfl (.cons rfl (.cons rfl (.cons rfl (.cons rfl (.cons rfl .nil))))))))))))))))) ?_)
  refine Fw.condT rfl ?_
  refine Fw.seq fun _ hK21 => ?_
  refine Fw.region ?_
  refine Fw.s (Fw.val_assign rfl) rfl ?_
  refine Fw.s (Fw.val_assign rfl) rfl ?_
  refine Fw.nil ?_
  refine hK21 _ _ (Fw.FC.sub (f' := [(3, _), (2, _)]) (.cons rfl (.cons rfl .nil)) ?_)
  refine Fw.ret ?_
  refine Fw.X_ret ?_
  refine Fw.X_blockR ?_
  refine Fw.X_ret ?_
  refine Fw.X_ret ?_
  refine Fw.X_blockR ?_
  refine Fw.X_ret ?_
  refine Fw.ret_ [.tmp 2, .tmp 3] [_, _] Try.results6 (.tmp rfl (.tmp rfl .nil)) ?_
  have hE : Us.newE l = 1 := by
    unfold Us.newE; rw [if_neg (by omega), if_neg]
    intro hal
    have := List.all_eq_true.1 hal l[k] (List.getElem_mem hkn)
    rw [show Us.cfgB l[k] = false from by unfold Us.cfgB; rw [decide_eq_false (by omega)]; rfl] at this; cases this
  rw [hE]
  exact ⟨_, rfl, fun _ => rfl, fun h_ => by simp at h_, HB⟩
  rintro hq2
  refine Fw.s (Fw.val_pickF rfl rfl) rfl ?_
  refine Fw.s (Fw.val_move rfl) rfl ?_
  refine Fw.gT (d := 30) rfl rfl ?_
  refine Fw.s (Fw.val_fieldAddr fl35_1 rfl rfl) rfl ?_
  refine Fw.gT (d := 30) rfl rfl ?_
  refine Fw.ld sc3 rfl (HX6.cell 1) rfl ?_
  refine Fw.gT (d := 30) rfl rfl ?_
  refine Fw.s2 (Fw.val_bin rfl rfl Fw.b_lss) rfl ?_ ?_
  rintro hq3
  refine Fw.s (Fw.val_pickF rfl rfl) rfl ?_
  refine Fw.s (Fw.val_move rfl) rfl ?_
  refine Fw.gF (d := 35) rfl rfl rfl rfl ?_
  refine Fw.gF (d := 35) rfl rfl rfl rfl ?_
  refine Fw.gF (d := 35) rfl rfl rfl rfl ?_
  refine Fw.gF (d := 35) rfl rfl rfl rfl ?_
  refine Fw.s (Fw.val_pickT rfl rfl) rfl ?_
  refine Fw.nil ?_
  refine hK17 _ _ (Fw.FC.sub (f' := [(40, _), (39, _), (38, _), (37, _), (36, _), (33, _), (32, _), (31, _), (28, _), (27, _), (26, _), (5, _), (6, _), (17, _), (16, _), (15, _), (4, _)]) (.cons rfl (.cons rfl (.cons rfl (.cons rfl (.cons rfl (.cons rfl (.cons rfl (.cons rfl (.cons rfl (.cons rfl (.cons rfl (.cons rfl (.cons rfl (.cons rfl (.cons rfl (.cons rfl (.cons rfl .nil))))))))))))))))) ?_)
  refine Fw.condT rfl ?_
  refine Fw.seq fun _ hK23 => ?_
  refine Fw.region ?_
  refine Fw.s (Fw.val_assign rfl) rfl ?_
  refine Fw.s (Fw.val_assign rfl) rfl ?_
  refine Fw.nil ?_
  refine hK23 _ _ (Fw.FC.sub (f' := [(3, _), (2, _)]) (.cons rfl (.cons rfl .nil)) ?_)
  refine Fw.ret ?_
  refine Fw.X_ret ?_
  refine Fw.X_blockR ?_
  refine Fw.X_ret ?_
  refine Fw.X_ret ?_
  refine Fw.X_blockR ?_
  refine Fw.X_ret ?_
  refine Fw.ret_ [.tmp 2, .tmp 3] [_, _] Try.results6 (.tmp rfl (.tmp rfl .nil)) ?_
  have hE : Us.newE l = 1 := by
    unfold Us.newE; rw [if_neg (by omega), if_neg]
    intro hal
    have := List.all_eq_true.1 hal l[k] (List.getElem_mem hkn)
    rw [show Us.cfgB l[k] = false from by unfold Us.cfgB; rw [show decide (0 ≤ l[k].h) = false from decide_eq_false (by omega)]; simp] at this; cases this
  rw [hE]
  exact ⟨_, rfl, fun _ => rfl, fun h_ => by simp at h_, HB⟩
  rintro hq3
  refine Fw.s (Fw.val_pickF rfl rfl) rfl ?_
  refine Fw.s (Fw.val_move rfl) rfl ?_
  refine Fw.gT (d := 35) rfl rfl ?_
  refine Fw.s (Fw.val_fieldAddr fl35_2 rfl rfl) rfl ?_
  refine Fw.gT (d := 35) rfl rfl ?_
  refine Fw.ld sc3 rfl (HX6.cell 2) rfl ?_
  refine Fw.gT (d := 35) rfl rfl ?_
  refine Fw.call cf28 rfl rfl (validNode_any _ _) ?_
  rintro e_ _ ⟨rfl, rfl⟩
  refine ⟨_, rfl, ?_⟩
  refine Fw.b2 ?_ ?_
  rintro hc4
  refine Fw.gT (d := 35) rfl rfl ?_
  refine Fw.s (Fw.val_not rfl) rfl ?_
  refine Fw.s (Fw.val_pickF rfl rfl) rfl ?_
  refine Fw.nil ?_
  refine hK17 _ _ (Fw.FC.sub (f' := [(40, _), (39, _), (38, _), (37, _), (36, _), (33, _), (32, _), (31, _), (28, _), (27, _), (26, _), (5, _), (6, _), (17, _), (16, _), (15, _), (4, _)]) (.cons rfl (.cons rfl (.cons rfl (.cons rfl (.cons rfl (.cons rfl (.cons rfl (.cons rfl (.cons rfl (.cons rfl (.cons rfl (.cons rfl (.cons rfl (.cons rfl (.cons rfl (.cons rfl (.cons rfl .nil))))))))))))))))) ?_)
  refine Fw.condF rfl ?_
  refine Fw.skip ?_
  refine hK16 _ _ ?_
  have hc1 : 1 ≤ l[k].k := by omega
  have hc2 : l[k].k ≤ 4 := by omega
  have hc3 : 0 ≤ l[k].h := by omega
  have HAt := Fw.At.mopen (k := k) Us.U.len hmz (by rw [hrz]; exact hkn) (by rw [hrz]; exact HN)
  rw [List.getElem_replicate] at HAt
  clear HN
  obtain ⟨cN, hbN⟩ := HAt.blk
  have nN6 := Blk.ne_ HX6 hbN (by decide)
  have nN14 := Blk.ne_ HX14 hbN (by decide)
  clear hbN
  refine Fw.regionHS (Chg (· = gN) w5) (by kernel_rfl) (Chg.of_below (Fw.drew_low w5) _) ?_
  have R_HX14 := HX14
  have R_HX6 := HX6
  have R_HB := HB
  intro w6 hb HS
  replace HX14 := HX14.low hb
  replace HX6 := HX6.low hb
  replace HAt := HAt.low hb
  replace HB := HB.trans (hb.mono HB.size)
  clear hb
  refine Fw.hTake 0 rfl rfl (by kernel_rfl) (by kernel_rfl) (by kernel_rfl) (Fw.yV (Fw.val_move rfl)) rfl ?_
  refine Fw.hTake 1 rfl rfl (by kernel_rfl) (by kernel_rfl) (by kernel_rfl) (Fw.yV (Fw.val_nil rfl)) rfl ?_
  refine Fw.hTake 2 rfl rfl (by kernel_rfl) (by kernel_rfl) (by kernel_rfl) (Fw.yV (Fw.val_fieldAddr fl80_0 rfl rfl)) rfl ?_
  refine Fw.hTake 3 rfl rfl (by kernel_rfl) (by kernel_rfl) (by kernel_rfl) (Fw.yV (Fw.hLdC sc78 rfl (R_HX14.cell 0) (by show ¬ gX14 = gN; omega))) rfl ?_
  refine Fw.hTake 4 rfl rfl (by kernel_rfl) (by kernel_rfl) (by kernel_rfl) (Fw.yV (Fw.val_move rfl)) rfl ?_
  refine Fw.hTake 5 rfl rfl (by kernel_rfl) (by kernel_rfl) (by kernel_rfl) (Fw.yV (Fw.val_move rfl)) rfl ?_
  refine Fw.hTake 6 rfl rfl (by kernel_rfl) (by kernel_rfl) (by kernel_rfl) (Fw.yV (Fw.val_fieldAddr fl35_0 rfl rfl)) rfl ?_
  refine Fw.hTake 7 rfl rfl (by kernel_rfl) (by kernel_rfl) (by kernel_rfl) (Fw.yV (Fw.hLdC sc3 rfl (R_HX6.cell 0) (by show ¬ gX6 = gN; omega))) rfl ?_
  refine Fw.hTake 8 rfl rfl (by kernel_rfl) (by kernel_rfl) (by kernel_rfl) (Fw.yV (Fw.val_fieldAddr fl35_1 rfl rfl)) rfl ?_
  refine Fw.hTake 9 rfl rfl (by kernel_rfl) (by kernel_rfl) (by kernel_rfl) (Fw.yV (Fw.hLdC sc3 rfl (R_HX6.cell 1) (by show ¬ gX6 = gN; omega))) rfl ?_
  refine Fw.hTake 10 rfl rfl (by kernel_rfl) (by kernel_rfl) (by kernel_rfl) (Fw.yV (Fw.val_fieldAddr fl35_2 rfl rfl)) rfl ?_
  refine Fw.hTake 11 rfl rfl (by kernel_rfl) (by kernel_rfl) (by kernel_rfl) (Fw.yV (Fw.hLdC sc3 rfl (R_HX6.cell 2) (by show ¬ gX6 = gN; omega))) rfl ?_
  refine Fw.hTake 12 rfl rfl (by kernel_rfl) (by kernel_rfl) (by kernel_rfl) (Fw.yV (Fw.val_build (ps := [(0, _), (1, _), (2, _), (4, _), (3, _)]) rfl (bu69_0_1_2_4_3 _ _ _ _ _))) rfl ?_
  refine Fw.hTake 13 rfl rfl (by kernel_rfl) (by kernel_rfl) (by kernel_rfl) (Fw.yV (Fw.val_indexR Try.underlying78 sz83 rfl rfl rfl rfl hkn (Fw.add0 gN (k * 15)))) rfl ?_
  refine Fw.hTake 14 rfl rfl (by kernel_rfl) (by kernel_rfl) (by kernel_rfl) (Fw.yV (Fw.val_fieldAddr fl83_0 rfl rfl)) rfl ?_
  refine Fw.hAll1 15 (by kernel_rfl) ?_
  refine Fw.hOp 15 rfl ?_
  refine Fw.storeIA Us.U.len sz69 rfl rfl rfl HAt rfl (by exact Fw.oneCells rfl) ?_
  intro w7 N_ hc
  replace HX14 := HX14.chg hc (by omega)
  replace HX6 := HX6.chg hc (by omega)
  replace HS := HS.trans hc (fun _ _ h => h)
  replace HB := HB.trans (hc.below (B := w.heap.size) (fun k e => by omega) HB.size)
  clear hc
  clear HAt
  have HAt := N_
  clear N_
  refine Fw.hNext HS ?_
  refine Fw.hDone (by kernel_rfl) ?_
  refine Fw.X_blockN ?_
  refine hK13 _ _ (Fw.FC.sub (f' := [(39, _), (38, _), (37, _), (36, _), (33, _), (32, _), (31, _), (28, _), (27, _), (26, _), (17, _), (16, _), (15, _), (4, _)]) (.cons rfl (.cons rfl (.cons rfl (.cons rfl (.cons rfl (.cons rfl (.cons rfl (.cons rfl (.cons rfl (.cons rfl (.cons rfl (.cons rfl (.cons rfl (.cons rfl .nil)))))))))))))) ?_)
  refine Fw.region ?_
  refine Fw.s (Fw.val_bin rfl rfl (Fw.b_add (Fw.i64_ok (by omega)))) rfl ?_
  refine Fw.s (Fw.val_move rfl) rfl ?_
  refine Fw.nil ?_
  have HN := Fw.At.mclose hmz (by rw [hrz]; exact hkn) (Us.fresh l[k] k) (Us.newL_at l k hkn) HAt
  rw [hrz] at HN
  refine Fw.roundEnd _ _ (by omega) ⟨k + 1, rfl, hkn, by rw [List.take_succ_eq_append_getElem hkn, List.all_append, hall]; simpa [Us.cfgB] using ⟨⟨hc1, hc2⟩, hc3, hc4⟩, HN, HX14, HB, rfl⟩ (.cons rfl (.cons rfl (.cons rfl (.cons rfl .nil))))
  rintro hc4
  refine Fw.gT (d := 35) rfl rfl ?_
  refine Fw.s (Fw.val_not rfl) rfl ?_
  refine Fw.s (Fw.val_pickF rfl rfl) rfl ?_
  refine Fw.nil ?_
  refine hK17 _ _ (Fw.FC.sub (f' := [(40, _), (39, _), (38, _), (37, _), (36, _), (33, _), (32, _), (31, _), (28, _), (27, _), (26, _), (5, _), (6, _), (17, _), (16, _), (15, _), (4, _)]) (.cons rfl (.cons rfl (.cons rfl (.cons rfl (.cons rfl (.cons rfl (.cons rfl (.cons rfl (.cons rfl (.cons rfl (.cons rfl (.cons rfl (.cons rfl (.cons rfl (.cons rfl (.cons rfl (.cons rfl .nil))))))))))))))))) ?_)
  refine Fw.condT rfl ?_
  refine Fw.seq fun _ hK25 => ?_
  refine Fw.region ?_
  refine Fw.s (Fw.val_assign rfl) rfl ?_
  refine Fw.s (Fw.val_assign rfl) rfl ?_
  refine Fw.nil ?_
  refine hK25 _ _ (Fw.FC.sub (f' := [(3, _), (2, _)]) (.cons rfl (.cons rfl .nil)) ?_)
  refine Fw.ret ?_
  refine Fw.X_ret ?_
  refine Fw.X_blockR ?_
  refine Fw.X_ret ?_
  refine Fw.X_ret ?_
  refine Fw.X_blockR ?_
  refine Fw.X_ret ?_
  refine Fw.ret_ [.tmp 2, .tmp 3] [_, _] Try.results6 (.tmp rfl (.tmp rfl .nil)) ?_
  have hE : Us.newE l = 1 := by
    unfold Us.newE; rw [if_neg (by omega), if_neg]
    intro hal
    have := List.all_eq_true.1 hal l[k] (List.getElem_mem hkn)
    rw [show Us.cfgB l[k] = false from by unfold Us.cfgB; rw [hc4]; simp] at this; cases this
  rw [hE]
  exact ⟨_, rfl, fun _ => rfl, fun h_ => by simp at h_, HB⟩
  rintro hk
  refine Fw.nil ?_
  refine hK10 _ _ ?_
  refine Fw.seq fun _ hK26 => ?_
  refine Fw.condF rfl ?_
  refine Fw.exit ?_
  refine Fw.X_exit ?_
  refine Fw.X_exit ?_
  refine Fw.X_block ?_
  refine hK7 _ _ ?_
  refine Fw.seq fun _ hK27 => ?_
  refine Fw.region ?_
  refine Fw.s (Fw.val_move rfl) rfl ?_
  refine Fw.s (Fw.val_assign rfl) rfl ?_
  refine Fw.s (Fw.val_assign rfl) rfl ?_
  refine Fw.nil ?_
  refine hK27 _ _ ?_
  refine Fw.ret ?_
  refine Fw.ret_ [.tmp 2, .tmp 3] [_, _] Try.results6 (.tmp rfl (.tmp rfl .nil)) ?_
  obtain rfl : k = l.length := by omega
  rw [List.take_length] at hall
  have hE : Us.newE l = 0 := by unfold Us.newE; rw [if_neg (by omega), if_pos hall]
  rw [Fw.mix_all hmz hrz.symm] at HN
  rw [hE]
  exact ⟨_, rfl, fun h_ => absurd rfl h_, fun _ => ⟨_, _, rfl, lgX14, lgN, by rw [Us.newL_len]; exact HX14, by rw [Us.newL_len]; exact HN⟩, HB⟩

end Go.Proofs.Ytodhpooddmeghaa
