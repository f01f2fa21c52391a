/- Layer 27: Unit, PendingOrder, Available, AssignedTo, All. -/
import Derived.Test.YtmohhociomghhaaUsB
namespace Go.Proofs.Ytmohhociomghhaa
set_option linter.unusedSimpArgs false
set_option linter.unusedVariables false
open Go.RowKit

namespace Us
/-- what Unit and PendingOrder say -/
def U.headI (u : U) : List Int := [u.id, u.kind, u.home, u.state, u.node, u.seq, u.heard, u.inc, u.ep, u.ack]
def U.ordI (u : U) : List Int := [u.ou, u.oe, u.ok, u.oi, u.on]
def unitI (l : List U) (id : Int) : List Int := if there l id then (get l id).headI else zero.headI
def ordI (l : List U) (id : Int) : List Int := if pend l id then (get l id).ordI else zero.ordI
theorem unitI_len (l : List U) (id : Int) : (unitI l id).length = 10 := by unfold unitI; split <;> rfl
theorem ordI_len (l : List U) (id : Int) : (ordI l id).length = 5 := by unfold ordI; split <;> rfl
theorem ordI_five (l : List U) (id : Int) : ∃ a b c d e, ordI l id = [a, b, c, d, e] := by unfold ordI; split <;> exact ⟨_, _, _, _, _, rfl⟩
def unitA (l : List U) (id : Int) : List Value := (unitI l id).map (.int .i64)
def ordA (l : List U) (id : Int) : List Value := (ordI l id).map (.int .i64)
theorem all_snoc (p : U → Bool) (l : List U) (k : Nat) (hk : k < l.length) : (l.take (k + 1)).all p = ((l.take k).all p && p l[k]) := by
  rw [List.take_succ_eq_append_getElem hk, List.all_append]; simp
end Us
set_option maxRecDepth 100000 in
set_option maxHeartbeats 1000000 in
theorem unit_any (w : World) (B p g c : Nat) (l : List Us.U) (id : Int) (h : RegAt w B p g c l) : Calls Try.prog 12 #[.pointer (some ⟨p, 0, none⟩), .int .i64 id] w fun e_ w' => e_ = .returned (.tuple #[.agg (Us.unitA l id).toArray, .bool (Us.there l id)]) ∧ Below w.heap.size w w' := by
  cases hth : Us.there l id with
  | true =>
    obtain ⟨i, hid, hi⟩ : ∃ i : Nat, id = i ∧ i < l.length := by have := of_decide_eq_true hth; exact ⟨(id).toNat, by omega, by omega⟩
    have hg := Us.get_at hid hi
    have HE := (h.at hi).rd Us.U.len
    have HR := h
    refine Fw.calls Try.func12 rfl Try.ntmps12 rfl ?_
    have HB := Below.refl (w.heap.size) w
    refine Fw.seq fun _ hK1 => ?_
    refine Fw.region ?_
    refine Fw.alloc ze32 rfl ?_
    intro w1 gX4 egX4 HX4 hb
    have lgX4 : w.heap.size ≤ gX4 := by have := HB.size; omega
    replace HB := HB.trans (hb.mono HB.size)
    clear hb
    clear egX4
    refine Fw.s (Fw.val_assign rfl) rfl ?_
    refine Fw.nil ?_
    refine hK1 _ _ ?_
    refine Fw.seq fun _ hK2 => ?_
    refine Fw.region ?_
    refine Fw.s (Fw.val_move rfl) rfl ?_
    refine Fw.s (Fw.val_move rfl) rfl ?_
    refine Fw.call cf24 rfl rfl (find_in _ B p g c l _ i hid hi (HR.low HB)) ?_
    rintro e_ _ ⟨rfl, rfl⟩
    refine ⟨_, rfl, ?_⟩
    refine Fw.s (Fw.val_assign rfl) rfl ?_
    refine Fw.nil ?_
    refine hK2 _ _ ?_
    refine Fw.seq fun _ hK3 => ?_
    refine Fw.seq fun _ hK4 => ?_
    refine Fw.region ?_
    refine Fw.s (Fw.val_move rfl) rfl ?_
    refine Fw.s (Fw.val_bin rfl rfl (Fw.b_nilP Try.underlying74)) rfl ?_
    refine Fw.nil ?_
    refine hK4 _ _ (Fw.FC.sub (f' := [(11, _), (6, _), (4, _)]) (.cons rfl (.cons rfl (.cons rfl .nil))) ?_)
    refine Fw.condF rfl ?_
    refine Fw.skip ?_
    refine hK3 _ _ ?_
    refine Fw.seq fun _ hK5 => ?_
    refine Fw.region ?_
    refine Fw.s (Fw.val_move rfl) rfl ?_
    refine Fw.s (Fw.val_nil rfl) rfl ?_
    refine Fw.s (Fw.val_fieldAddr fl73_0 rfl rfl) rfl ?_
    refine Fw.ldA ag32 rfl (Fw.rdPart (HE.low HB) 0 10) rfl rfl ?_
    refine Fw.storeW sz32 rfl rfl HX4 rfl rfl (by exact Fw.oneCells rfl) ?_
    intro w2 N_ hc
    replace HB := HB.trans (hc.below (B := w.heap.size) (fun k e => by omega) HB.size)
    clear hc
    clear HX4
    have HX4 := N_
    clear N_
    refine Fw.s (Fw.val_assign rfl) rfl ?_
    refine Fw.nil ?_
    refine hK5 _ _ ?_
    refine Fw.ret ?_
    refine Fw.ret_ [.cell 4 32, .tmp 5] [_, _] Try.results12 (Fw.ResL.cellM rfl ag32 (Fw.rdBlk HX4) rfl (.tmp rfl .nil)) ?_
    rw [show Us.unitA l id = Us.U.head l[i] by unfold Us.unitA Us.unitI; rw [hth, hg]; rfl]
    exact ⟨rfl, HB⟩
  | false =>
    have HR := h
    refine Fw.calls Try.func12 rfl Try.ntmps12 rfl ?_
    have HB := Below.refl (w.heap.size) w
    refine Fw.seq fun _ hK1 => ?_
    refine Fw.region ?_
    refine Fw.alloc ze32 rfl ?_
    intro w1 gX4 egX4 HX4 hb
    have lgX4 : w.heap.size ≤ gX4 := by have := HB.size; omega
    replace HB := HB.trans (hb.mono HB.size)
    clear hb
    clear egX4
    refine Fw.s (Fw.val_assign rfl) rfl ?_
    refine Fw.nil ?_
    refine hK1 _ _ ?_
    refine Fw.seq fun _ hK2 => ?_
    refine Fw.region ?_
    refine Fw.s (Fw.val_move rfl) rfl ?_
    refine Fw.s (Fw.val_move rfl) rfl ?_
    refine Fw.call cf24 rfl rfl (find_out _ B p g c l _ hth (HR.low HB)) ?_
    rintro e_ _ ⟨rfl, rfl⟩
    refine ⟨_, rfl, ?_⟩
    refine Fw.s (Fw.val_assign rfl) rfl ?_
    refine Fw.nil ?_
    refine hK2 _ _ ?_
    refine Fw.seq fun _ hK3 => ?_
    refine Fw.seq fun _ hK4 => ?_
    refine Fw.region ?_
    refine Fw.s (Fw.val_move rfl) rfl ?_
    refine Fw.s (Fw.val_bin rfl rfl (Fw.b_nilP Try.underlying74)) rfl ?_
    refine Fw.nil ?_
    refine hK4 _ _ (Fw.FC.sub (f' := [(11, _), (6, _), (4, _)]) (.cons rfl (.cons rfl (.cons rfl .nil))) ?_)
    refine Fw.condT rfl ?_
    refine Fw.seq fun _ hK5 => ?_
    refine Fw.region ?_
    refine Fw.s (Fw.val_build (ps := []) rfl (bu32_)) rfl ?_
    refine Fw.storeW sz32 rfl rfl HX4 rfl rfl (by exact Fw.oneCells rfl) ?_
    intro w2 N_ hc
    replace HB := HB.trans (hc.below (B := w.heap.size) (fun k e => by omega) HB.size)
    clear hc
    clear HX4
    have HX4 := N_
    clear N_
    refine Fw.s (Fw.val_assign rfl) rfl ?_
    refine Fw.nil ?_
    refine hK5 _ _ ?_
    refine Fw.ret ?_
    refine Fw.X_ret ?_
    refine Fw.ret_ [.cell 4 32, .tmp 5] [_, _] Try.results12 (Fw.ResL.cellM rfl ag32 (Fw.rdBlk HX4) rfl (.tmp rfl .nil)) ?_
    rw [show Us.unitA l id = Us.U.head Us.zero by unfold Us.unitA Us.unitI; rw [hth]; rfl]
    exact ⟨rfl, HB⟩

set_option maxRecDepth 100000 in
set_option maxHeartbeats 1000000 in
theorem pendingOrder_any (w : World) (B p g c : Nat) (l : List Us.U) (id : Int) (h : RegAt w B p g c l) : Calls Try.prog 13 #[.pointer (some ⟨p, 0, none⟩), .int .i64 id] w fun e_ w' => e_ = .returned (.tuple #[.agg (Us.ordA l id).toArray, .bool (Us.pend l id)]) ∧ Below w.heap.size w w' := by
  cases hth : Us.there l id with
  | true =>
    obtain ⟨i, hid, hi⟩ : ∃ i : Nat, id = i ∧ i < l.length := by have := of_decide_eq_true hth; exact ⟨(id).toNat, by omega, by omega⟩
    have hg := Us.get_at hid hi
    have HE := (h.at hi).rd Us.U.len
    have HR := h
    refine Fw.calls Try.func13 rfl Try.ntmps13 rfl ?_
    have HB := Below.refl (w.heap.size) w
    refine Fw.seq fun _ hK1 => ?_
    refine Fw.region ?_
    refine Fw.alloc ze36 rfl ?_
    intro w1 gX4 egX4 HX4 hb
    have lgX4 : w.heap.size ≤ gX4 := by have := HB.size; omega
    replace HB := HB.trans (hb.mono HB.size)
    clear hb
    clear egX4
    refine Fw.s (Fw.val_assign rfl) rfl ?_
    refine Fw.nil ?_
    refine hK1 _ _ ?_
    refine Fw.seq fun _ hK2 => ?_
    refine Fw.region ?_
    refine Fw.s (Fw.val_move rfl) rfl ?_
    refine Fw.s (Fw.val_move rfl) rfl ?_
    refine Fw.call cf24 rfl rfl (find_in _ B p g c l _ i hid hi (HR.low HB)) ?_
    rintro e_ _ ⟨rfl, rfl⟩
    refine ⟨_, rfl, ?_⟩
    refine Fw.s (Fw.val_assign rfl) rfl ?_
    refine Fw.nil ?_
    refine hK2 _ _ ?_
    refine Fw.seq fun _ hK3 => ?_
    refine Fw.seq fun _ hK4 => ?_
    refine Fw.regionQ (by kernel_rfl) (by kernel_rfl) ?_
    refine Fw.q (Fw.val_move rfl) rfl ?_
    refine Fw.q (Fw.val_bin rfl rfl (Fw.b_nilP Try.underlying74)) rfl ?_
    refine Fw.q (Fw.val_move rfl) rfl ?_
    refine Fw.gTQ (d := 12) rfl rfl ?_
    refine Fw.q (Fw.val_move rfl) rfl ?_
    refine Fw.gTQ (d := 12) rfl rfl ?_
    refine Fw.q (Fw.val_nil rfl) rfl ?_
    refine Fw.gTQ (d := 12) rfl rfl ?_
    refine Fw.q (Fw.val_fieldAddr fl73_0 rfl rfl) rfl ?_
    refine Fw.gTQ (d := 12) rfl rfl ?_
    refine Fw.q (Fw.val_fieldAddr fl32_9 rfl rfl) rfl ?_
    refine Fw.gTQ (d := 12) rfl rfl ?_
    refine Fw.ldQ sc2 rfl (Fw.rdCell (HE.low HB) 9 rfl) rfl ?_
    refine Fw.gTQ (d := 12) rfl rfl ?_
    refine Fw.q (Fw.val_move rfl) rfl ?_
    refine Fw.gTQ (d := 12) rfl rfl ?_
    refine Fw.q (Fw.val_nil rfl) rfl ?_
    refine Fw.gTQ (d := 12) rfl rfl ?_
    refine Fw.q (Fw.val_fieldAddr fl73_0 rfl rfl) rfl ?_
    refine Fw.gTQ (d := 12) rfl rfl ?_
    refine Fw.q (Fw.val_fieldAddr fl32_8 rfl rfl) rfl ?_
    refine Fw.gTQ (d := 12) rfl rfl ?_
    refine Fw.ldQ sc2 rfl (Fw.rdCell (HE.low HB) 8 rfl) rfl ?_
    refine Fw.gTQ (d := 12) rfl rfl ?_
    refine Fw.q2 (Fw.val_bin rfl rfl Fw.b_geq) rfl ?_ ?_
    · rintro hq
      refine Fw.q (Fw.val_pickF rfl rfl) rfl ?_
      refine Fw.nilQ ?_
      intro w2 hb
      replace HX4 := HX4.low hb
      replace HB := HB.trans (hb.mono HB.size)
      clear hb
      refine hK4 _ _ (Fw.FC.sub (f' := [(24, _), (6, _), (4, _)]) (.cons rfl (.cons rfl (.cons rfl .nil))) ?_)
      refine Fw.condT rfl ?_
      refine Fw.seq fun _ hK6 => ?_
      refine Fw.region ?_
      refine Fw.s (Fw.val_build (ps := []) rfl (bu36_)) rfl ?_
      refine Fw.storeW sz36 rfl rfl HX4 rfl rfl (by exact Fw.oneCells rfl) ?_
      intro w3 N_ hc
      replace HB := HB.trans (hc.below (B := w.heap.size) (fun k e => by omega) HB.size)
      clear hc
      clear HX4
      have HX4 := N_
      clear N_
      refine Fw.s (Fw.val_assign rfl) rfl ?_
      refine Fw.nil ?_
      refine hK6 _ _ ?_
      refine Fw.ret ?_
      refine Fw.X_ret ?_
      refine Fw.ret_ [.cell 4 36, .tmp 5] [_, _] Try.results13 (Fw.ResL.cellM rfl ag36 (Fw.rdBlk HX4) rfl (.tmp rfl .nil)) ?_
      have hp : Us.pend l id = false := by unfold Us.pend; rw [hth, hg, decide_eq_false (by omega)]; rfl
      rw [show Us.ordA l id = Us.U.ord Us.zero by unfold Us.ordA Us.ordI; rw [hp]; rfl, hp]
      exact ⟨rfl, HB⟩
    · rintro hq
      refine Fw.q (Fw.val_pickF rfl rfl) rfl ?_
      refine Fw.nilQ ?_
      intro w4 hb
      replace HX4 := HX4.low hb
      replace HB := HB.trans (hb.mono HB.size)
      clear hb
      refine hK4 _ _ (Fw.FC.sub (f' := [(24, _), (6, _), (4, _)]) (.cons rfl (.cons rfl (.cons rfl .nil))) ?_)
      refine Fw.condF rfl ?_
      refine Fw.skip ?_
      refine hK3 _ _ ?_
      refine Fw.seq fun _ hK7 => ?_
      refine Fw.region ?_
      refine Fw.s (Fw.val_move rfl) rfl ?_
      refine Fw.s (Fw.val_nil rfl) rfl ?_
      refine Fw.s (Fw.val_fieldAddr fl73_1 rfl rfl) rfl ?_
      refine Fw.ldA ag36 rfl (Fw.rdPart (HE.low HB) 10 5) rfl rfl ?_
      refine Fw.storeW sz36 rfl rfl HX4 rfl rfl (by exact Fw.oneCells rfl) ?_
      intro w5 N_ hc
      replace HB := HB.trans (hc.below (B := w.heap.size) (fun k e => by omega) HB.size)
      clear hc
      clear HX4
      have HX4 := N_
      clear N_
      refine Fw.s (Fw.val_assign rfl) rfl ?_
      refine Fw.nil ?_
      refine hK7 _ _ ?_
      refine Fw.ret ?_
      refine Fw.ret_ [.cell 4 36, .tmp 5] [_, _] Try.results13 (Fw.ResL.cellM rfl ag36 (Fw.rdBlk HX4) rfl (.tmp rfl .nil)) ?_
      have hp : Us.pend l id = true := by unfold Us.pend; rw [hth, hg, decide_eq_true (by omega)]; rfl
      rw [show Us.ordA l id = Us.U.ord l[i] by unfold Us.ordA Us.ordI; rw [hp, hg]; rfl, hp]
      exact ⟨rfl, HB⟩
  | false =>
    have HR := h
    refine Fw.calls Try.func13 rfl Try.ntmps13 rfl ?_
    have HB := Below.refl (w.heap.size) w
    refine Fw.seq fun _ hK1 => ?_
    refine Fw.region ?_
    refine Fw.alloc ze36 rfl ?_
    intro w1 gX4 egX4 HX4 hb
    have lgX4 : w.heap.size ≤ gX4 := by have := HB.size; omega
    replace HB := HB.trans (hb.mono HB.size)
    clear hb
    clear egX4
    refine Fw.s (Fw.val_assign rfl) rfl ?_
    refine Fw.nil ?_
    refine hK1 _ _ ?_
    refine Fw.seq fun _ hK2 => ?_
    refine Fw.region ?_
    refine Fw.s (Fw.val_move rfl) rfl ?_
    refine Fw.s (Fw.val_move rfl) rfl ?_
    refine Fw.call cf24 rfl rfl (find_out _ B p g c l _ hth (HR.low HB)) ?_
    rintro e_ _ ⟨rfl, rfl⟩
    refine ⟨_, rfl, ?_⟩
    refine Fw.s (Fw.val_assign rfl) rfl ?_
    refine Fw.nil ?_
    refine hK2 _ _ ?_
    refine Fw.seq fun _ hK3 => ?_
    refine Fw.seq fun _ hK4 => ?_
    refine Fw.regionQ (by kernel_rfl) (by kernel_rfl) ?_
    refine Fw.q (Fw.val_move rfl) rfl ?_
    refine Fw.q (Fw.val_bin rfl rfl (Fw.b_nilP Try.underlying74)) rfl ?_
    refine Fw.q (Fw.val_move rfl) rfl ?_
    refine Fw.gFQ (d := 12) rfl rfl rfl rfl ?_
    refine Fw.gFQ (d := 12) rfl rfl rfl rfl ?_
    refine Fw.gFQ (d := 12) rfl rfl rfl rfl ?_
    refine Fw.gFQ (d := 12) rfl rfl rfl rfl ?_
    refine Fw.gFQ (d := 12) rfl rfl rfl rfl ?_
    refine Fw.gFQ (d := 12) rfl rfl rfl rfl ?_
    refine Fw.gFQ (d := 12) rfl rfl rfl rfl ?_
    refine Fw.gFQ (d := 12) rfl rfl rfl rfl ?_
    refine Fw.gFQ (d := 12) rfl rfl rfl rfl ?_
    refine Fw.gFQ (d := 12) rfl rfl rfl rfl ?_
    refine Fw.gFQ (d := 12) rfl rfl rfl rfl ?_
    refine Fw.q (Fw.val_pickT rfl rfl) rfl ?_
    refine Fw.nilQ ?_
    intro w2 hb
    replace HX4 := HX4.low hb
    replace HB := HB.trans (hb.mono HB.size)
    clear hb
    refine hK4 _ _ (Fw.FC.sub (f' := [(24, _), (6, _), (4, _)]) (.cons rfl (.cons rfl (.cons rfl .nil))) ?_)
    refine Fw.condT rfl ?_
    refine Fw.seq fun _ hK5 => ?_
    refine Fw.region ?_
    refine Fw.s (Fw.val_build (ps := []) rfl (bu36_)) rfl ?_
    refine Fw.storeW sz36 rfl rfl HX4 rfl rfl (by exact Fw.oneCells rfl) ?_
    intro w3 N_ hc
    replace HB := HB.trans (hc.below (B := w.heap.size) (fun k e => by omega) HB.size)
    clear hc
    clear HX4
    have HX4 := N_
    clear N_
    refine Fw.s (Fw.val_assign rfl) rfl ?_
    refine Fw.nil ?_
    refine hK5 _ _ ?_
    refine Fw.ret ?_
    refine Fw.X_ret ?_
    refine Fw.ret_ [.cell 4 36, .tmp 5] [_, _] Try.results13 (Fw.ResL.cellM rfl ag36 (Fw.rdBlk HX4) rfl (.tmp rfl .nil)) ?_
    have hp : Us.pend l id = false := by unfold Us.pend; rw [hth]; rfl
    rw [show Us.ordA l id = Us.U.ord Us.zero by unfold Us.ordA Us.ordI; rw [hp]; rfl, hp]
    exact ⟨rfl, HB⟩

set_option maxRecDepth 100000 in
set_option maxHeartbeats 1000000 in
theorem available_any (w : World) (B p g c : Nat) (l : List Us.U)  (h : RegAt w B p g c l) (hl : l.length ≤ 256) : Calls Try.prog 27 #[.pointer (some ⟨p, 0, none⟩)] w fun e_ w' => ∃ A' c', e_ = .returned (.slice A' (Us.free l).length c') ∧ w'.ownsRow w.heap.size 3 1 (.slice A' (Us.free l).length c') (Us.free l).length ((Us.free l).map (.int .i64)) ∧ Below w.heap.size w w' := by
  have HR := h
  have hlt := h.lt
  obtain ⟨hBp, hBg, HP, HO⟩ := h
  refine Fw.calls Try.func27 rfl Try.ntmps27 rfl ?_
  have HB := Below.refl (w.heap.size) w
  refine Fw.seq fun _ hK1 => ?_
  refine Fw.region ?_
  refine Fw.s (Fw.val_assign rfl) rfl ?_
  refine Fw.nil ?_
  refine hK1 _ _ ?_
  refine Fw.seq fun _ hK2 => ?_
  refine Fw.region ?_
  refine Fw.s (Fw.val_assign rfl) rfl ?_
  refine Fw.nil ?_
  refine hK2 _ _ ?_
  refine Fw.seq fun _ hK3 => ?_
  refine Fw.seq fun _ hK4 => ?_
  refine Fw.region ?_
  refine Fw.s (Fw.val_move rfl) rfl ?_
  refine Fw.s (Fw.val_nil rfl) rfl ?_
  refine Fw.s (Fw.val_fieldAddr fl70_0 rfl rfl) rfl ?_
  refine Fw.ld sc68 rfl ((HP.low HB).cell 0) rfl ?_
  refine Fw.s (Fw.val_len Try.underlying68 rfl) rfl ?_
  refine Fw.s (Fw.val_move rfl) rfl ?_
  refine Fw.nil ?_
  refine hK4 _ _ ?_
  refine Fw.block ?_
  have HN : w.ownsRow w.heap.size 3 1 (.slice none ([] : List Int).length 0) ([] : List Int).length (([] : List Int).map (.int .i64)) := ⟨rfl, .inl ⟨rfl, rfl⟩⟩
  refine Fw.loop (fun m_ f_ W_ => ∃ (k : Nat) (r_ : List Int) (A_ : Option Addr) (c_ : Nat), m_ = l.length - k ∧ k ≤ l.length ∧ r_ = Us.idx (fun u => decide (u.state = 1)) (l.take k) ∧ W_.ownsRow w.heap.size 3 1 (.slice A_ r_.length c_) r_.length (r_.map (.int .i64)) ∧ Below (w.heap.size) w W_ ∧ f_ = [(10, .int .i64 k), (9, .int .i64 l.length), (3, .slice A_ r_.length c_), (0, .pointer (some ⟨p, 0, none⟩))]) ⟨_, _, ⟨0, [], none, 0, rfl, Nat.zero_le _, rfl, HN, HB, rfl⟩, (.cons rfl (.cons rfl (.cons rfl (.cons rfl .nil))))⟩ ?_
  clear HN HB
  rintro m5_ _ w1 ⟨k, r_, A_, c_, hm5_, hkl, hr, HN, HB, rfl⟩
  refine Fw.seq fun _ hK6 => ?_
  refine Fw.region ?_
  refine Fw.s2 (Fw.val_bin rfl rfl Fw.b_lss) rfl ?_ ?_
  · rintro hk
    refine Fw.nil ?_
    refine hK6 _ _ ?_
    refine Fw.seq fun _ hK8 => ?_
    refine Fw.condT rfl ?_
    refine Fw.skip ?_
    refine hK8 _ _ ?_
    refine Fw.seq fun _ hK9 => ?_
    refine Fw.block ?_
    refine Fw.seq fun _ hK10 => ?_
    refine Fw.region ?_
    refine Fw.s (Fw.val_move rfl) rfl ?_
    refine Fw.s (Fw.val_assign rfl) rfl ?_
    refine Fw.nil ?_
    refine hK10 _ _ ?_
    refine Fw.seq fun _ hK11 => ?_
    have hkn : k < l.length := by omega
    have HE := ((HR.low HB).at hkn).rd Us.U.len
    refine Fw.region ?_
    refine Fw.s (Fw.val_move rfl) rfl ?_
    refine Fw.s (Fw.val_nil rfl) rfl ?_
    refine Fw.s (Fw.val_fieldAddr fl70_0 rfl rfl) rfl ?_
    refine Fw.ld sc68 rfl ((HP.low HB).cell 0) rfl ?_
    refine Fw.s (Fw.val_move rfl) rfl ?_
    refine Fw.s (Fw.val_indexR Try.underlying68 sz73 rfl rfl rfl rfl hkn (Fw.add0 g (k * 15))) rfl ?_
    refine Fw.s (Fw.val_fieldAddr fl73_0 rfl rfl) rfl ?_
    refine Fw.s (Fw.val_fieldAddr fl32_3 rfl rfl) rfl ?_
    refine Fw.ld sc3 rfl (Fw.rdCell HE 3 rfl) rfl ?_
    refine Fw.s2 (Fw.val_bin rfl rfl Fw.b_eql) rfl ?_ ?_
    · rintro hq
      refine Fw.nil ?_
      refine hK11 _ _ (Fw.FC.sub (f' := [(22, _), (4, _), (10, _), (9, _), (3, _), (0, _)]) (.cons rfl (.cons rfl (.cons rfl (.cons rfl (.cons rfl (.cons rfl .nil)))))) ?_)
      refine Fw.condT rfl ?_
      refine Fw.region ?_
      refine Fw.s (Fw.val_move rfl) rfl ?_
      refine Fw.s (Fw.val_move rfl) rfl ?_
      refine Fw.buildSlice [_] sl58 rfl rfl (by exact Fw.allSz rfl) (by decide) rfl ?_
      intro w2 gS25 egS25 HS25 hb
      have lgS25 : w.heap.size ≤ gS25 := by have := HB.size; omega
      clear HE
      replace HN := own_below HN hb (Nat.le_refl _)
      replace HB := HB.trans (hb.mono HB.size)
      clear hb
      clear egS25
      have hNr := Us.idx_len (fun u => decide (u.state = 1)) (l.take k)
      refine Fw.append (r_ ++ [(k : Int)]).length ((r_ ++ [(k : Int)]).map (.int .i64)) sl58 rfl rfl HN (show Rd _ _ [.int .i64 (k : Int)] from Fw.rdBlk HS25) rfl (Fw.oneCellsL rfl) (by rw [hr]; have := List.length_take (i := k) (l := l); unfold maxLen; omega) HB.size (by simp) (by rw [List.map_append]; rfl) rfl ?_
      intro A' c' w3 N_ hbb hc _
      replace HB := HB.trans hbb
      clear hbb hc HN
      have HN := N_
      clear N_
      refine Fw.s (Fw.val_assign rfl) rfl ?_
      refine Fw.nil ?_
      refine Fw.X_blockN ?_
      refine hK9 _ _ (Fw.FC.sub (f' := [(3, _), (10, _), (9, _), (0, _)]) (.cons rfl (.cons rfl (.cons rfl (.cons rfl .nil)))) ?_)
      refine Fw.region ?_
      refine Fw.s (Fw.val_bin rfl rfl (Fw.b_add (Fw.i64_ok (by omega)))) rfl ?_
      refine Fw.s (Fw.val_move rfl) rfl ?_
      refine Fw.nil ?_
      refine Fw.roundEnd _ _ (by omega) ⟨k + 1, r_ ++ [(k : Int)], A', c', rfl, hkn, by rw [hr, Us.idx_snoc _ _ _ hkn, if_pos (by simpa using hq)], HN, HB, rfl⟩ (.cons rfl (.cons rfl (.cons rfl (.cons rfl .nil))))
    · rintro hq
      refine Fw.nil ?_
      refine hK11 _ _ (Fw.FC.sub (f' := [(22, _), (4, _), (10, _), (9, _), (3, _), (0, _)]) (.cons rfl (.cons rfl (.cons rfl (.cons rfl (.cons rfl (.cons rfl .nil)))))) ?_)
      refine Fw.condF rfl ?_
      refine Fw.skip ?_
      refine Fw.X_blockN ?_
      refine hK9 _ _ ?_
      refine Fw.region ?_
      refine Fw.s (Fw.val_bin rfl rfl (Fw.b_add (Fw.i64_ok (by omega)))) rfl ?_
      refine Fw.s (Fw.val_move rfl) rfl ?_
      refine Fw.nil ?_
      refine Fw.roundEnd _ _ (by omega) ⟨k + 1, r_, A_, c_, rfl, hkn, by rw [hr, Us.idx_snoc _ _ _ hkn, if_neg (by simpa using hq), List.append_nil], HN, HB, rfl⟩ (.cons rfl (.cons rfl (.cons rfl (.cons rfl .nil))))
  · rintro hk
    refine Fw.nil ?_
    refine hK6 _ _ ?_
    refine Fw.seq fun _ hK14 => ?_
    refine Fw.condF rfl ?_
    refine Fw.exit ?_
    refine Fw.X_exit ?_
    refine Fw.X_exit ?_
    refine Fw.X_block ?_
    refine hK3 _ _ ?_
    refine Fw.seq fun _ hK15 => ?_
    obtain rfl : k = l.length := by omega
    rw [List.take_length] at hr
    subst hr
    refine Fw.region ?_
    refine Fw.s (Fw.val_move rfl) rfl ?_
    refine Fw.s (Fw.val_assign rfl) rfl ?_
    refine Fw.nil ?_
    refine hK15 _ _ ?_
    refine Fw.ret ?_
    refine Fw.ret_ [.tmp 2] [_] Try.results27 (.tmp rfl .nil) ?_
    exact ⟨_, _, rfl, HN, HB⟩

set_option maxRecDepth 100000 in
set_option maxHeartbeats 1000000 in
theorem assignedTo_any (w : World) (B p g c : Nat) (l : List Us.U) (m : Int) (h : RegAt w B p g c l) (hl : l.length ≤ 256) : Calls Try.prog 30 #[.pointer (some ⟨p, 0, none⟩), .int .i64 m] w fun e_ w' => ∃ A' c', e_ = .returned (.slice A' (Us.of l m).length c') ∧ w'.ownsRow w.heap.size 3 1 (.slice A' (Us.of l m).length c') (Us.of l m).length ((Us.of l m).map (.int .i64)) ∧ Below w.heap.size w w' := by
  have HR := h
  have hlt := h.lt
  obtain ⟨hBp, hBg, HP, HO⟩ := h
  refine Fw.calls Try.func30 rfl Try.ntmps30 rfl ?_
  have HB := Below.refl (w.heap.size) w
  refine Fw.seq fun _ hK1 => ?_
  refine Fw.region ?_
  refine Fw.s (Fw.val_assign rfl) rfl ?_
  refine Fw.nil ?_
  refine hK1 _ _ ?_
  refine Fw.seq fun _ hK2 => ?_
  refine Fw.seq fun _ hK3 => ?_
  refine Fw.region ?_
  refine Fw.s (Fw.val_move rfl) rfl ?_
  refine Fw.s2 (Fw.val_bin rfl rfl Fw.b_eql) rfl ?_ ?_
  · rintro hz
    refine Fw.nil ?_
    refine hK3 _ _ ?_
    refine Fw.condT rfl ?_
    refine Fw.seq fun _ hK5 => ?_
    refine Fw.region ?_
    refine Fw.s (Fw.val_assign rfl) rfl ?_
    refine Fw.nil ?_
    refine hK5 _ _ ?_
    refine Fw.ret ?_
    refine Fw.X_ret ?_
    refine Fw.ret_ [.tmp 4] [_] Try.results30 (.tmp rfl .nil) ?_
    rw [show Us.of l m = [] from if_pos hz]
    exact ⟨_, _, rfl, ⟨rfl, .inl ⟨rfl, rfl⟩⟩, HB⟩
  · rintro hz
    refine Fw.nil ?_
    refine hK3 _ _ ?_
    refine Fw.condF rfl ?_
    refine Fw.skip ?_
    refine hK2 _ _ ?_
    refine Fw.seq fun _ hK6 => ?_
    refine Fw.region ?_
    refine Fw.s (Fw.val_assign rfl) rfl ?_
    refine Fw.nil ?_
    refine hK6 _ _ ?_
    refine Fw.seq fun _ hK7 => ?_
    refine Fw.seq fun _ hK8 => ?_
    refine Fw.region ?_
    refine Fw.s (Fw.val_move rfl) rfl ?_
    refine Fw.s (Fw.val_nil rfl) rfl ?_
    refine Fw.s (Fw.val_fieldAddr fl70_0 rfl rfl) rfl ?_
    refine Fw.ld sc68 rfl ((HP.low HB).cell 0) rfl ?_
    refine Fw.s (Fw.val_len Try.underlying68 rfl) rfl ?_
    refine Fw.s (Fw.val_move rfl) rfl ?_
    refine Fw.nil ?_
    refine hK8 _ _ (Fw.FC.sub (f' := [(14, _), (13, _), (5, _), (0, _), (1, _)]) (.cons rfl (.cons rfl (.cons rfl (.cons rfl (.cons rfl .nil))))) ?_)
    refine Fw.block ?_
    have HN : w.ownsRow w.heap.size 3 1 (.slice none ([] : List Int).length 0) ([] : List Int).length (([] : List Int).map (.int .i64)) := ⟨rfl, .inl ⟨rfl, rfl⟩⟩
    refine Fw.loop (fun m_ f_ W_ => ∃ (k : Nat) (r_ : List Int) (A_ : Option Addr) (c_ : Nat), m_ = l.length - k ∧ k ≤ l.length ∧ r_ = Us.idx (fun u => decide (u.inc = m)) (l.take k) ∧ W_.ownsRow w.heap.size 3 1 (.slice A_ r_.length c_) r_.length (r_.map (.int .i64)) ∧ Below (w.heap.size) w W_ ∧ f_ = [(14, .int .i64 k), (13, .int .i64 l.length), (5, .slice A_ r_.length c_), (0, .pointer (some ⟨p, 0, none⟩)), (1, .int .i64 m)]) ⟨_, _, ⟨0, [], none, 0, rfl, Nat.zero_le _, rfl, HN, HB, rfl⟩, (.cons rfl (.cons rfl (.cons rfl (.cons rfl (.cons rfl .nil)))))⟩ ?_
    clear HN HB
    rintro m9_ _ w1 ⟨k, r_, A_, c_, hm9_, hkl, hr, HN, HB, rfl⟩
    refine Fw.seq fun _ hK10 => ?_
    refine Fw.region ?_
    refine Fw.s2 (Fw.val_bin rfl rfl Fw.b_lss) rfl ?_ ?_
    · rintro hk
      refine Fw.nil ?_
      refine hK10 _ _ ?_
      refine Fw.seq fun _ hK12 => ?_
      refine Fw.condT rfl ?_
      refine Fw.skip ?_
      refine hK12 _ _ ?_
      refine Fw.seq fun _ hK13 => ?_
      refine Fw.block ?_
      refine Fw.seq fun _ hK14 => ?_
      refine Fw.region ?_
      refine Fw.s (Fw.val_move rfl) rfl ?_
      refine Fw.s (Fw.val_assign rfl) rfl ?_
      refine Fw.nil ?_
      refine hK14 _ _ ?_
      refine Fw.seq fun _ hK15 => ?_
      have hkn : k < l.length := by omega
      have HE := ((HR.low HB).at hkn).rd Us.U.len
      refine Fw.region ?_
      refine Fw.s (Fw.val_move rfl) rfl ?_
      refine Fw.s (Fw.val_nil rfl) rfl ?_
      refine Fw.s (Fw.val_fieldAddr fl70_0 rfl rfl) rfl ?_
      refine Fw.ld sc68 rfl ((HP.low HB).cell 0) rfl ?_
      refine Fw.s (Fw.val_move rfl) rfl ?_
      refine Fw.s (Fw.val_indexR Try.underlying68 sz73 rfl rfl rfl rfl hkn (Fw.add0 g (k * 15))) rfl ?_
      refine Fw.s (Fw.val_fieldAddr fl73_0 rfl rfl) rfl ?_
      refine Fw.s (Fw.val_fieldAddr fl32_7 rfl rfl) rfl ?_
      refine Fw.ld sc2 rfl (Fw.rdCell HE 7 rfl) rfl ?_
      refine Fw.s (Fw.val_move rfl) rfl ?_
      refine Fw.s2 (Fw.val_bin rfl rfl Fw.b_eql) rfl ?_ ?_
      · rintro hq
        refine Fw.nil ?_
        refine hK15 _ _ (Fw.FC.sub (f' := [(27, _), (6, _), (14, _), (13, _), (5, _), (0, _), (1, _)]) (.cons rfl (.cons rfl (.cons rfl (.cons rfl (.cons rfl (.cons rfl (.cons rfl .nil))))))) ?_)
        refine Fw.condT rfl ?_
        refine Fw.region ?_
        refine Fw.s (Fw.val_move rfl) rfl ?_
        refine Fw.s (Fw.val_move rfl) rfl ?_
        refine Fw.buildSlice [_] sl58 rfl rfl (by exact Fw.allSz rfl) (by decide) rfl ?_
        intro w2 gS30 egS30 HS30 hb
        have lgS30 : w.heap.size ≤ gS30 := by have := HB.size; omega
        clear HE
        replace HN := own_below HN hb (Nat.le_refl _)
        replace HB := HB.trans (hb.mono HB.size)
        clear hb
        clear egS30
        have hNr := Us.idx_len (fun u => decide (u.inc = m)) (l.take k)
        refine Fw.append (r_ ++ [(k : Int)]).length ((r_ ++ [(k : Int)]).map (.int .i64)) sl58 rfl rfl HN (show Rd _ _ [.int .i64 (k : Int)] from Fw.rdBlk HS30) rfl (Fw.oneCellsL rfl) (by rw [hr]; have := List.length_take (i := k) (l := l); unfold maxLen; omega) HB.size (by simp) (by rw [List.map_append]; rfl) rfl ?_
        intro A' c' w3 N_ hbb hc _
        replace HB := HB.trans hbb
        clear hbb hc HN
        have HN := N_
        clear N_
        refine Fw.s (Fw.val_assign rfl) rfl ?_
        refine Fw.nil ?_
        refine Fw.X_blockN ?_
        refine hK13 _ _ (Fw.FC.sub (f' := [(5, _), (14, _), (13, _), (0, _), (1, _)]) (.cons rfl (.cons rfl (.cons rfl (.cons rfl (.cons rfl .nil))))) ?_)
        refine Fw.region ?_
        refine Fw.s (Fw.val_bin rfl rfl (Fw.b_add (Fw.i64_ok (by omega)))) rfl ?_
        refine Fw.s (Fw.val_move rfl) rfl ?_
        refine Fw.nil ?_
        refine Fw.roundEnd _ _ (by omega) ⟨k + 1, r_ ++ [(k : Int)], A', c', rfl, hkn, by rw [hr, Us.idx_snoc _ _ _ hkn, if_pos (by simpa using hq)], HN, HB, rfl⟩ (.cons rfl (.cons rfl (.cons rfl (.cons rfl (.cons rfl .nil)))))
      · rintro hq
        refine Fw.nil ?_
        refine hK15 _ _ (Fw.FC.sub (f' := [(27, _), (6, _), (14, _), (13, _), (5, _), (0, _), (1, _)]) (.cons rfl (.cons rfl (.cons rfl (.cons rfl (.cons rfl (.cons rfl (.cons rfl .nil))))))) ?_)
        refine Fw.condF rfl ?_
        refine Fw.skip ?_
        refine Fw.X_blockN ?_
        refine hK13 _ _ ?_
        refine Fw.region ?_
        refine Fw.s (Fw.val_bin rfl rfl (Fw.b_add (Fw.i64_ok (by omega)))) rfl ?_
        refine Fw.s (Fw.val_move rfl) rfl ?_
        refine Fw.nil ?_
        refine Fw.roundEnd _ _ (by omega) ⟨k + 1, r_, A_, c_, rfl, hkn, by rw [hr, Us.idx_snoc _ _ _ hkn, if_neg (by simpa using hq), List.append_nil], HN, HB, rfl⟩ (.cons rfl (.cons rfl (.cons rfl (.cons rfl (.cons rfl .nil)))))
    · rintro hk
      refine Fw.nil ?_
      refine hK10 _ _ ?_
      refine Fw.seq fun _ hK18 => ?_
      refine Fw.condF rfl ?_
      refine Fw.exit ?_
      refine Fw.X_exit ?_
      refine Fw.X_exit ?_
      refine Fw.X_block ?_
      refine hK7 _ _ ?_
      refine Fw.seq fun _ hK19 => ?_
      obtain rfl : k = l.length := by omega
      rw [List.take_length] at hr
      subst hr
      refine Fw.region ?_
      refine Fw.s (Fw.val_move rfl) rfl ?_
      refine Fw.s (Fw.val_assign rfl) rfl ?_
      refine Fw.nil ?_
      refine hK19 _ _ (Fw.FC.sub (f' := [(4, _)]) (.cons rfl .nil) ?_)
      refine Fw.ret ?_
      refine Fw.ret_ [.tmp 4] [_] Try.results30 (.tmp rfl .nil) ?_
      rw [show Us.of l m = _ from if_neg hz]
      exact ⟨_, _, rfl, HN, HB⟩

end Go.Proofs.Ytmohhociomghhaa
