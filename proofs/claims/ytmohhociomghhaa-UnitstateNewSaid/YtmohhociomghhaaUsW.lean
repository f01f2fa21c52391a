/- Layer 27: the law's own functions: same. -/
import Derived.Test.YtmohhociomghhaaUsV
namespace Go.Proofs.Ytmohhociomghhaa
set_option linter.unusedSimpArgs false
set_option linter.unusedVariables false
open Go.RowKit

theorem unit_at (w : World) (B p g c : Nat) (l : List Us.U) (id : Int) (i : Nat) (hid : id = i) (hi : i < l.length) (h : RegAt w B p g c l) : Calls Try.prog 12 #[.pointer (some ⟨p, 0, none⟩), .int .i64 id] w fun e_ w' => e_ = .returned (.tuple #[.agg (Us.U.head l[i]).toArray, .bool true]) ∧ Below w.heap.size w w' := by
  have h1 := unit_any w B p g c l id h
  have ht : Us.there l id = true := decide_eq_true (by omega)
  rw [show Us.unitA l id = Us.U.head l[i] by unfold Us.unitA Us.unitI; rw [ht, Us.get_at hid hi]; rfl, ht] at h1
  exact h1
theorem own_fresh {w : World} {g base : Nat} {e : TypeId} {size n c : Nat} {A : Option Addr} {xs : List Value} (h : w.ownsRow base e size (.slice A n c) n xs) (hg : g = w.heap.size) : A.map (·.block) ≠ some g := fun e' => by
  have := h.lt g (by rw [ownBlock_slice, e']); omega
theorem RegAt.apart {w : World} {B p g c : Nat} {l : List Us.U} {A : Option Addr} {xs : List Value} (h : RegAt w B p g c l) (hm : Fw.RdT w 40 A xs) : ∀ ad, A = some ad → ¬ ad.block = g := fun ad e hb => by
  obtain ⟨cs, fr, h1⟩ := hm.2 ad e
  obtain ⟨cur, h2, _⟩ := Fw.own_at h.2.2.2
  rw [hb] at h1
  have h3 : w.heap[g]? = some (.cells cur 73 (0, 0)) := h2
  rw [h3] at h1
  injection h1 with h1; injection h1 with _ h1
  exact absurd h1 (by decide)

set_option maxRecDepth 100000 in
set_option maxHeartbeats 1000000 in
theorem same_any (w : World) (B p g c : Nat) (l : List Us.U) (A : Option Addr) (c0 : Nat) (h : RegAt w B p g c l) (hm : Fw.RdT w 40 A (l.flatMap Us.U.cells)) (hl : l.length ≤ 256) : Calls Try.prog 14 #[.pointer (some ⟨p, 0, none⟩), .slice A l.length c0] w fun e_ w' => e_ = .returned (.bool true) ∧ Below w.heap.size w w' := by
  refine Fw.calls Try.func14 rfl Try.ntmps14 rfl ?_
  have HB := Below.refl (w.heap.size) w
  refine Fw.seq fun _ hK1 => ?_
  refine Fw.region ?_
  refine Fw.s (Fw.val_assign rfl) rfl ?_
  refine Fw.nil ?_
  refine hK1 _ _ ?_
  refine Fw.seq fun _ hK2 => ?_
  refine Fw.region ?_
  refine Fw.s (Fw.val_move rfl) rfl ?_
  refine Fw.call cf15 rfl rfl (all_any _ B p g c l (h.low HB) hl) ?_
  rintro e_ w1 ⟨AO, cO, rfl, HO, hb⟩
  refine ⟨_, rfl, ?_⟩
  replace HB := HB.trans (hb.mono HB.size)
  clear hb
  refine Fw.s (Fw.val_assign rfl) rfl ?_
  refine Fw.nil ?_
  refine hK2 _ _ ?_
  refine Fw.seq fun _ hK3 => ?_
  refine Fw.seq fun _ hK4 => ?_
  refine Fw.region ?_
  refine Fw.s (Fw.val_move rfl) rfl ?_
  refine Fw.s (Fw.val_len Try.underlying48 rfl) rfl ?_
  refine Fw.s (Fw.val_move rfl) rfl ?_
  refine Fw.s (Fw.val_len Try.underlying28 rfl) rfl ?_
  refine Fw.s (Fw.Val.F (Fw.val_bin rfl rfl Fw.b_neq) (by simp)) rfl ?_
  refine Fw.s (Fw.val_move rfl) rfl ?_
  refine Fw.gT (d := 21) rfl rfl ?_
  refine Fw.s (Fw.val_move rfl) rfl ?_
  refine Fw.gT (d := 21) rfl rfl ?_
  refine Fw.call cf21 rfl rfl (checksum_any _ B p g c l (h.low HB) hl) ?_
  rintro e_ w2 ⟨rfl, hb⟩
  refine ⟨_, rfl, ?_⟩
  replace HO := own_below HO hb (Nat.le_refl _)
  replace HB := HB.trans (hb.mono HB.size)
  clear hb
  refine Fw.gT (d := 21) rfl rfl ?_
  refine Fw.s (Fw.val_move rfl) rfl ?_
  refine Fw.gT (d := 21) rfl rfl ?_
  refine Fw.call cf25 rfl rfl (rseal_any _ A l c0 (hm.low HB) hl) ?_
  rintro e_ w3 ⟨rfl, hb⟩
  refine ⟨_, rfl, ?_⟩
  replace HO := own_below HO hb (Nat.le_refl _)
  replace HB := HB.trans (hb.mono HB.size)
  clear hb
  refine Fw.gT (d := 21) rfl rfl ?_
  refine Fw.s (Fw.Val.F (Fw.val_bin rfl rfl Fw.b_neq) (by simp)) rfl ?_
  refine Fw.s (Fw.val_pickF rfl rfl) rfl ?_
  refine Fw.s (Fw.val_move rfl) rfl ?_
  refine Fw.gT (d := 28) rfl rfl ?_
  refine Fw.s (Fw.val_move rfl) rfl ?_
  refine Fw.gT (d := 28) rfl rfl ?_
  refine Fw.call cf27 rfl rfl (available_any _ B p g c l (h.low HB) hl) ?_
  rintro e_ w4 ⟨A1, cc1, rfl, HI1, hb⟩
  refine ⟨_, rfl, ?_⟩
  replace HO := own_below HO hb (Nat.le_refl _)
  replace HB := HB.trans (hb.mono HB.size)
  clear hb
  refine Fw.gT (d := 28) rfl rfl ?_
  refine Fw.s (Fw.val_move rfl) rfl ?_
  refine Fw.gT (d := 28) rfl rfl ?_
  refine Fw.call cf28 rfl rfl (rfree_any _ A l c0 (hm.low HB) hl) ?_
  rintro e_ w5 ⟨A2, cc2, rfl, HI2, hb⟩
  refine ⟨_, rfl, ?_⟩
  replace HO := own_below HO hb (Nat.le_refl _)
  replace HI1 := own_below HI1 hb (Nat.le_refl _)
  replace HB := HB.trans (hb.mono HB.size)
  clear hb
  refine Fw.gT (d := 28) rfl rfl ?_
  refine Fw.call cf26 rfl rfl (rsame7_any _ A1 (Us.free l) cc1 A2 (Us.free l) cc2 (Rd.of_own HI1) (Rd.of_own HI2) (by have := Us.idx_len (fun u => decide (u.state = 1)) l; unfold Us.free; omega)) ?_
  rintro e_ w6 ⟨rfl, hb⟩
  refine ⟨_, rfl, ?_⟩
  replace HO := own_below HO hb (Nat.le_refl _)
  replace HI1 := own_below HI1 hb (Nat.le_refl _)
  replace HI2 := own_below HI2 hb (Nat.le_refl _)
  replace HB := HB.trans (hb.mono HB.size)
  clear hb
  refine Fw.bT (by exact decide_eq_true rfl) ?_
  refine Fw.gT (d := 28) rfl rfl ?_
  refine Fw.s (Fw.val_not rfl) rfl ?_
  refine Fw.s (Fw.val_pickF rfl rfl) rfl ?_
  refine Fw.nil ?_
  refine hK4 _ _ (Fw.FC.sub (f' := [(35, _), (5, _), (0, _), (1, _)]) (.cons rfl (.cons rfl (.cons rfl (.cons rfl .nil)))) ?_)
  refine Fw.condF rfl ?_
  refine Fw.skip ?_
  refine hK3 _ _ ?_
  refine Fw.seq fun _ hK5 => ?_
  refine Fw.seq fun _ hK6 => ?_
  refine Fw.region ?_
  refine Fw.s (Fw.val_move rfl) rfl ?_
  refine Fw.s (Fw.val_len Try.underlying28 rfl) rfl ?_
  refine Fw.s (Fw.val_move rfl) rfl ?_
  refine Fw.nil ?_
  refine hK6 _ _ ?_
  refine Fw.block ?_
  refine Fw.loop (fun m_ f_ W_ => ∃ (k : Nat), m_ = l.length - k ∧ k ≤ l.length ∧ W_.ownsRow w.heap.size 32 10 (.slice AO l.length cO) l.length (l.flatMap Us.U.head) ∧ Below (w.heap.size) w W_ ∧ f_ = [(38, .int .i64 k), (37, .int .i64 l.length), (36, .slice A l.length c0), (5, .slice AO l.length cO), (0, .pointer (some ⟨p, 0, none⟩)), (1, .slice A l.length c0)]) ⟨_, _, ⟨0, rfl, Nat.zero_le _, HO, HB, rfl⟩, (.cons rfl (.cons rfl (.cons rfl (.cons rfl (.cons rfl (.cons rfl .nil))))))⟩ ?_
  clear HO HB
  rintro m7_ _ w7 ⟨k, hm7_, hkl, HO, HB, rfl⟩
  refine Fw.seq fun _ hK8 => ?_
  refine Fw.region ?_
  refine Fw.s2 (Fw.val_bin rfl rfl Fw.b_lss) rfl ?_ ?_
  · rintro hk
    refine Fw.nil ?_
    refine hK8 _ _ ?_
    refine Fw.seq fun _ hK10 => ?_
    refine Fw.condT rfl ?_
    refine Fw.skip ?_
    refine hK10 _ _ ?_
    refine Fw.seq fun _ hK11 => ?_
    refine Fw.block ?_
    refine Fw.seq fun _ hK12 => ?_
    have hkn : k < l.length := by omega
    obtain ⟨ad, b_, o, hA, hadd, HE⟩ := Fw.rdAt Us.U.len (by decide) (hm.1.low HB) k hkn
    obtain ⟨q1, q2, q3, q4, q5, hO5⟩ := Us.ordI_five l (k : Int)
    have hO : Us.ordA l (k : Int) = [.int .i64 q1, .int .i64 q2, .int .i64 q3, .int .i64 q4, .int .i64 q5] := by unfold Us.ordA; rw [hO5]; rfl
    refine Fw.region ?_
    refine Fw.s (Fw.val_move rfl) rfl ?_
    refine Fw.s (Fw.val_indexR Try.underlying28 sz40 rfl hA rfl rfl hkn hadd) rfl ?_
    refine Fw.ldA ag40 rfl (HE) rfl rfl ?_
    refine Fw.alloc ze40 rfl ?_
    intro w8 gX7 egX7 HX7 hb
    have fr_HO_gX7 := own_fresh HO egX7
    have lgX7 : w.heap.size ≤ gX7 := by have := HB.size; omega
    clear HE
    replace HO := own_below HO hb (Nat.le_refl _)
    replace HB := HB.trans (hb.mono HB.size)
    clear hb
    clear egX7
    refine Fw.s (Fw.val_assign rfl) rfl ?_
    refine Fw.storeW sz40 rfl rfl HX7 rfl rfl (by exact Fw.oneCells rfl) ?_
    intro w9 N_ hc
    replace HO := own_to HO hc (fun g_ h_ e_ => fr_HO_gX7 (by rw [h_, e_]))
    replace HB := HB.trans (hc.below (B := w.heap.size) (fun k e => by omega) HB.size)
    clear hc
    clear HX7
    have HX7 := N_
    clear N_
    refine Fw.nil ?_
    refine hK12 _ _ ?_
    refine Fw.seq fun _ hK14 => ?_
    refine Fw.region ?_
    refine Fw.s (Fw.val_move rfl) rfl ?_
    refine Fw.s (Fw.val_move rfl) rfl ?_
    refine Fw.call cf12 rfl rfl (unit_at _ B p g c l _ k rfl hkn (h.low HB)) ?_
    rintro e_ w10 ⟨rfl, hb⟩
    refine ⟨_, rfl, ?_⟩
    replace HO := own_below HO hb (Nat.le_refl _)
    replace HX7 := HX7.low hb
    replace HB := HB.trans (hb.mono HB.size)
    clear hb
    refine Fw.s (Fw.val_move rfl) rfl ?_
    refine Fw.s (Fw.val_extract rfl rfl) rfl ?_
    refine Fw.s (Fw.val_extract rfl rfl) rfl ?_
    refine Fw.bT (by rfl) ?_
    refine Fw.alloc ze32 rfl ?_
    intro w11 gX8 egX8 HX8 hb
    have fr_HO_gX8 := own_fresh HO egX8
    have n_gX7_gX8 : gX7 < gX8 := by have := HX7.lt; omega
    have lgX8 : w.heap.size ≤ gX8 := by have := HB.size; omega
    replace HO := own_below HO hb (Nat.le_refl _)
    replace HX7 := HX7.low hb
    replace HB := HB.trans (hb.mono HB.size)
    clear hb
    clear egX8
    refine Fw.storeW sz32 rfl rfl HX8 rfl rfl (by exact Fw.oneCells rfl) ?_
    intro w12 N_ hc
    replace HO := own_to HO hc (fun g_ h_ e_ => fr_HO_gX8 (by rw [h_, e_]))
    replace HX7 := HX7.chg hc (by omega)
    replace HB := HB.trans (hc.below (B := w.heap.size) (fun k e => by omega) HB.size)
    clear hc
    clear HX8
    have HX8 := N_
    clear N_
    refine Fw.s (Fw.val_assign rfl) rfl ?_
    refine Fw.nil ?_
    refine hK14 _ _ (Fw.FC.sub (f' := [(9, _), (8, _), (6, _), (7, _), (38, _), (37, _), (36, _), (5, _), (0, _), (1, _)]) (.cons rfl (.cons rfl (.cons rfl (.cons rfl (.cons rfl (.cons rfl (.cons rfl (.cons rfl (.cons rfl (.cons rfl .nil)))))))))) ?_)
    refine Fw.seq fun _ hK15 => ?_
    refine Fw.region ?_
    refine Fw.s (Fw.val_move rfl) rfl ?_
    refine Fw.s (Fw.val_move rfl) rfl ?_
    refine Fw.call cf13 rfl rfl (by have this := pendingOrder_any w12 B p g c l (k : Int) (h.low HB); rw [hO] at this; exact this) ?_
    rintro e_ w13 ⟨rfl, hb⟩
    refine ⟨_, rfl, ?_⟩
    replace HO := own_below HO hb (Nat.le_refl _)
    replace HX7 := HX7.low hb
    replace HX8 := HX8.low hb
    replace HB := HB.trans (hb.mono HB.size)
    clear hb
    refine Fw.s (Fw.val_move rfl) rfl ?_
    refine Fw.s (Fw.val_extract rfl rfl) rfl ?_
    refine Fw.s (Fw.val_extract rfl rfl) rfl ?_
    refine Fw.alloc ze36 rfl ?_
    intro w14 gX10 egX10 HX10 hb
    have fr_HO_gX10 := own_fresh HO egX10
    have n_gX7_gX10 : gX7 < gX10 := by have := HX7.lt; omega
    have n_gX8_gX10 : gX8 < gX10 := by have := HX8.lt; omega
    have lgX10 : w.heap.size ≤ gX10 := by have := HB.size; omega
    replace HO := own_below HO hb (Nat.le_refl _)
    replace HX7 := HX7.low hb
    replace HX8 := HX8.low hb
    replace HB := HB.trans (hb.mono HB.size)
    clear hb
    clear egX10
    refine Fw.storeW sz36 rfl rfl HX10 rfl rfl (by exact Fw.oneCells rfl) ?_
    intro w15 N_ hc
    replace HO := own_to HO hc (fun g_ h_ e_ => fr_HO_gX10 (by rw [h_, e_]))
    replace HX7 := HX7.chg hc (by omega)
    replace HX8 := HX8.chg hc (by omega)
    replace HB := HB.trans (hc.below (B := w.heap.size) (fun k e => by omega) HB.size)
    clear hc
    clear HX10
    have HX10 := N_
    clear N_
    refine Fw.s (Fw.val_assign rfl) rfl ?_
    refine Fw.nil ?_
    refine hK15 _ _ ?_
    refine Fw.seq fun _ hK16 => ?_
    refine Fw.region ?_
    refine Fw.s (Fw.val_move rfl) rfl ?_
    refine Fw.s (Fw.val_move rfl) rfl ?_
    refine Fw.call cf29 rfl rfl (by have this := rorder_any w15 A l c0 (k : Int) (hm.low HB); rw [hO] at this; exact this) ?_
    rintro e_ w16 ⟨rfl, hb⟩
    refine ⟨_, rfl, ?_⟩
    replace HO := own_below HO hb (Nat.le_refl _)
    replace HX7 := HX7.low hb
    replace HX8 := HX8.low hb
    replace HX10 := HX10.low hb
    replace HB := HB.trans (hb.mono HB.size)
    clear hb
    refine Fw.s (Fw.val_move rfl) rfl ?_
    refine Fw.s (Fw.val_extract rfl rfl) rfl ?_
    refine Fw.s (Fw.val_extract rfl rfl) rfl ?_
    refine Fw.alloc ze36 rfl ?_
    intro w17 gX12 egX12 HX12 hb
    have fr_HO_gX12 := own_fresh HO egX12
    have n_gX7_gX12 : gX7 < gX12 := by have := HX7.lt; omega
    have n_gX8_gX12 : gX8 < gX12 := by have := HX8.lt; omega
    have n_gX10_gX12 : gX10 < gX12 := by have := HX10.lt; omega
    have lgX12 : w.heap.size ≤ gX12 := by have := HB.size; omega
    replace HO := own_below HO hb (Nat.le_refl _)
    replace HX7 := HX7.low hb
    replace HX8 := HX8.low hb
    replace HX10 := HX10.low hb
    replace HB := HB.trans (hb.mono HB.size)
    clear hb
    clear egX12
    refine Fw.storeW sz36 rfl rfl HX12 rfl rfl (by exact Fw.oneCells rfl) ?_
    intro w18 N_ hc
    replace HO := own_to HO hc (fun g_ h_ e_ => fr_HO_gX12 (by rw [h_, e_]))
    replace HX7 := HX7.chg hc (by omega)
    replace HX8 := HX8.chg hc (by omega)
    replace HX10 := HX10.chg hc (by omega)
    replace HB := HB.trans (hc.below (B := w.heap.size) (fun k e => by omega) HB.size)
    clear hc
    clear HX12
    have HX12 := N_
    clear N_
    refine Fw.s (Fw.val_assign rfl) rfl ?_
    refine Fw.nil ?_
    refine hK16 _ _ (Fw.FC.sub (f' := [(13, _), (12, _), (11, _), (10, _), (9, _), (8, _), (6, _), (7, _), (38, _), (37, _), (36, _), (5, _), (0, _), (1, _)]) (.cons rfl (.cons rfl (.cons rfl (.cons rfl (.cons rfl (.cons rfl (.cons rfl (.cons rfl (.cons rfl (.cons rfl (.cons rfl (.cons rfl (.cons rfl (.cons rfl .nil)))))))))))))) ?_)
    refine Fw.seq fun _ hK17 => ?_
    refine Fw.seq fun _ hK18 => ?_
    obtain ⟨ad2, b2, o2, hA2, hadd2, HE2⟩ := Fw.rdAt Us.U.hlen (by decide) (Rd.of_own HO) k hkn
    refine Fw.regionQ (by kernel_rfl) (by kernel_rfl) ?_
    refine Fw.q (Fw.val_move rfl) rfl ?_
    refine Fw.q (Fw.val_move rfl) rfl ?_
    refine Fw.q (Fw.val_indexR Try.underlying48 sz32 rfl hA2 rfl rfl hkn hadd2) rfl ?_
    refine Fw.ldAQ ag32 rfl (HE2) rfl rfl ?_
    refine Fw.q (Fw.val_fieldAddr fl40_0 rfl rfl) rfl ?_
    refine Fw.ldAQ ag32 rfl (Fw.rdPart (Fw.rdBlk HX7) 0 10) rfl rfl ?_
    refine Fw.q (Fw.Val.F (Fw.val_bin rfl rfl (Fw.b_neqA eq32 (Us.U.headI l[k]) (Us.U.headI l[k]) rfl rfl)) (by simp)) rfl ?_
    refine Fw.q (Fw.val_move rfl) rfl ?_
    refine Fw.gTQ (d := 68) rfl rfl ?_
    refine Fw.ldAQ ag32 rfl (Fw.rdBlk HX8) rfl rfl ?_
    refine Fw.gTQ (d := 68) rfl rfl ?_
    refine Fw.q (Fw.val_fieldAddr fl40_0 rfl rfl) rfl ?_
    refine Fw.gTQ (d := 68) rfl rfl ?_
    refine Fw.ldAQ ag32 rfl (Fw.rdPart (Fw.rdBlk HX7) 0 10) rfl rfl ?_
    refine Fw.gTQ (d := 68) rfl rfl ?_
    refine Fw.q (Fw.Val.F (Fw.val_bin rfl rfl (Fw.b_neqA eq32 (Us.U.headI l[k]) (Us.U.headI l[k]) rfl rfl)) (by simp)) rfl ?_
    refine Fw.q (Fw.val_pickF rfl rfl) rfl ?_
    refine Fw.q (Fw.val_move rfl) rfl ?_
    refine Fw.gTQ (d := 74) rfl rfl ?_
    refine Fw.q (Fw.val_move rfl) rfl ?_
    refine Fw.gTQ (d := 74) rfl rfl ?_
    refine Fw.q (Fw.val_not rfl) rfl ?_
    refine Fw.q (Fw.val_pickF rfl rfl) rfl ?_
    refine Fw.q (Fw.val_move rfl) rfl ?_
    refine Fw.gTQ (d := 78) rfl rfl ?_
    refine Fw.ldAQ ag36 rfl (Fw.rdBlk HX10) rfl rfl ?_
    refine Fw.gTQ (d := 78) rfl rfl ?_
    refine Fw.ldAQ ag36 rfl (Fw.rdBlk HX12) rfl rfl ?_
    refine Fw.gTQ (d := 78) rfl rfl ?_
    refine Fw.q (Fw.Val.F (Fw.val_bin rfl rfl (Fw.b_neqA eq36 [q1, q2, q3, q4, q5] [q1, q2, q3, q4, q5] rfl rfl)) (by simp)) rfl ?_
    refine Fw.q (Fw.val_pickF rfl rfl) rfl ?_
    refine Fw.q (Fw.val_move rfl) rfl ?_
    refine Fw.gTQ (d := 83) rfl rfl ?_
    refine Fw.q (Fw.val_move rfl) rfl ?_
    refine Fw.gTQ (d := 83) rfl rfl ?_
    refine Fw.q (Fw.val_move rfl) rfl ?_
    refine Fw.gTQ (d := 83) rfl rfl ?_
    refine Fw.q (Fw.Val.F (Fw.val_bin rfl rfl (Fw.b_neqB Try.underlying4)) (by simp)) rfl ?_
    refine Fw.q (Fw.val_pickF rfl rfl) rfl ?_
    refine Fw.nilQ ?_
    intro w19 hb
    clear HE2
    replace HO := own_below HO hb (Nat.le_refl _)
    replace HX7 := HX7.low hb
    replace HX8 := HX8.low hb
    replace HX10 := HX10.low hb
    replace HX12 := HX12.low hb
    replace HB := HB.trans (hb.mono HB.size)
    clear hb
    refine hK18 _ _ (Fw.FC.sub (f' := [(87, _), (86, _), (85, _), (84, _), (81, _), (80, _), (79, _), (76, _), (75, _), (72, _), (71, _), (70, _), (69, _), (7, _), (38, _), (37, _), (36, _), (5, _), (0, _), (1, _)]) (.cons rfl (.cons rfl (.cons rfl (.cons rfl (.cons rfl (.cons rfl (.cons rfl (.cons rfl (.cons rfl (.cons rfl (.cons rfl (.cons rfl (.cons rfl (.cons rfl (.cons rfl (.cons rfl (.cons rfl (.cons rfl (.cons rfl (.cons rfl .nil)))))))))))))))))))) ?_)
    refine Fw.condF rfl ?_
    refine Fw.skip ?_
    refine hK17 _ _ ?_
    refine Fw.seq fun _ hK20 => ?_
    refine Fw.regionH (by kernel_rfl) ?_
    have R_HX7 := HX7
    have R_HX8 := HX8
    have R_HX10 := HX10
    have R_HX12 := HX12
    have R_HB := HB
    intro w20 hb
    have HS := hb
    replace HO := own_below HO hb (Nat.le_refl _)
    replace HX7 := HX7.low hb
    replace HX8 := HX8.low hb
    replace HX10 := HX10.low hb
    replace HX12 := HX12.low hb
    replace HB := HB.trans (hb.mono HB.size)
    clear hb
    refine Fw.hTake 0 rfl rfl (by kernel_rfl) (by kernel_rfl) (by kernel_rfl) (Fw.yV (Fw.val_fieldAddr fl40_0 rfl rfl)) rfl ?_
    refine Fw.hTake 1 rfl rfl (by kernel_rfl) (by kernel_rfl) (by kernel_rfl) (Fw.yV (Fw.val_fieldAddr fl32_7 rfl rfl)) rfl ?_
    refine Fw.hTake 2 rfl rfl (by kernel_rfl) (by kernel_rfl) (by kernel_rfl) (Fw.yV (Fw.hLd sc2 rfl (R_HX7.cell 7))) rfl ?_
    refine Fw.hTake2 3 rfl rfl (by kernel_rfl) (by kernel_rfl) (by kernel_rfl) (Fw.yV (Fw.val_bin rfl rfl Fw.b_neq)) rfl ?_ ?_
    · rintro hinc
      refine Fw.hTake 4 rfl rfl (by kernel_rfl) (by kernel_rfl) (by kernel_rfl) (Fw.yV (Fw.val_move rfl)) rfl ?_
      refine Fw.hTake 5 rfl rfl (by kernel_rfl) (by kernel_rfl) (by kernel_rfl) (Fw.yT (e := 92) rfl rfl (Fw.val_move rfl)) rfl ?_
      refine Fw.hTake 6 rfl rfl (by kernel_rfl) (by kernel_rfl) (by kernel_rfl) (Fw.yT (e := 92) rfl rfl (Fw.val_fieldAddr fl40_0 rfl rfl)) rfl ?_
      refine Fw.hTake 7 rfl rfl (by kernel_rfl) (by kernel_rfl) (by kernel_rfl) (Fw.yT (e := 92) rfl rfl (Fw.val_fieldAddr fl32_7 rfl rfl)) rfl ?_
      refine Fw.hTake 8 rfl rfl (by kernel_rfl) (by kernel_rfl) (by kernel_rfl) (Fw.yT (e := 92) rfl rfl (Fw.hLd sc2 rfl (R_HX7.cell 7))) rfl ?_
      refine Fw.hTake 10 rfl rfl (by kernel_rfl) (by kernel_rfl) (by kernel_rfl) (Fw.yT (e := 92) rfl rfl (Fw.val_move rfl)) rfl ?_
      refine Fw.hTake 11 rfl rfl (by kernel_rfl) (by kernel_rfl) (by kernel_rfl) (Fw.yT (e := 92) rfl rfl (Fw.val_fieldAddr fl40_0 rfl rfl)) rfl ?_
      refine Fw.hTake 12 rfl rfl (by kernel_rfl) (by kernel_rfl) (by kernel_rfl) (Fw.yT (e := 92) rfl rfl (Fw.val_fieldAddr fl32_7 rfl rfl)) rfl ?_
      refine Fw.hTake 13 rfl rfl (by kernel_rfl) (by kernel_rfl) (by kernel_rfl) (Fw.yT (e := 92) rfl rfl (Fw.hLd sc2 rfl (R_HX7.cell 7))) rfl ?_
      refine Fw.hAll1 9 (by kernel_rfl) ?_
      refine Fw.hOp 9 rfl ?_
      refine Fw.gT (d := 92) rfl rfl ?_
      refine Fw.call cf30 rfl rfl (assignedTo_any _ B p g c l _ (h.low HB) hl) ?_
      rintro e_ w21 ⟨A3, cc3, rfl, HI3, hb⟩
      refine ⟨_, rfl, ?_⟩
      replace HO := own_below HO hb (Nat.le_refl _)
      replace HX7 := HX7.low hb
      replace HX8 := HX8.low hb
      replace HX10 := HX10.low hb
      replace HX12 := HX12.low hb
      replace HS := HS.trans (hb.mono HS.size)
      replace HB := HB.trans (hb.mono HB.size)
      clear hb
      refine Fw.hNext HS ?_
      refine Fw.hAll1 14 (by kernel_rfl) ?_
      refine Fw.hOp 14 rfl ?_
      refine Fw.gT (d := 92) rfl rfl ?_
      refine Fw.call cf31 rfl rfl (rof_any _ A l c0 _ (hm.low HB) hl) ?_
      rintro e_ w22 ⟨A4, cc4, rfl, HI4, hb⟩
      refine ⟨_, rfl, ?_⟩
      replace HO := own_below HO hb (Nat.le_refl _)
      replace HX7 := HX7.low hb
      replace HX8 := HX8.low hb
      replace HX10 := HX10.low hb
      replace HX12 := HX12.low hb
      replace HS := HS.trans (hb.mono HS.size)
      replace HI3 := own_below HI3 hb (Nat.le_refl _)
      replace HB := HB.trans (hb.mono HB.size)
      clear hb
      refine Fw.hNext HS ?_
      refine Fw.hAll1 15 (by kernel_rfl) ?_
      refine Fw.hOp 15 rfl ?_
      refine Fw.gT (d := 92) rfl rfl ?_
      refine Fw.call cf26 rfl rfl (rsame7_any _ A3 (Us.of l l[k].inc) cc3 A4 (Us.of l l[k].inc) cc4 (Rd.of_own HI3) (Rd.of_own HI4) (by have := Us.of_len l l[k].inc; omega)) ?_
      rintro e_ w23 ⟨rfl, hb⟩
      refine ⟨_, rfl, ?_⟩
      replace HO := own_below HO hb (Nat.le_refl _)
      replace HX7 := HX7.low hb
      replace HX8 := HX8.low hb
      replace HX10 := HX10.low hb
      replace HX12 := HX12.low hb
      replace HS := HS.trans (hb.mono HS.size)
      replace HI3 := own_below HI3 hb (Nat.le_refl _)
      replace HI4 := own_below HI4 hb (Nat.le_refl _)
      replace HB := HB.trans (hb.mono HB.size)
      clear hb
      refine Fw.bT (by exact decide_eq_true rfl) ?_
      refine Fw.hNext HS ?_
      refine Fw.hTake 16 rfl rfl (by kernel_rfl) (by kernel_rfl) (by kernel_rfl) (Fw.yT (e := 92) rfl rfl (Fw.val_not rfl)) rfl ?_
      refine Fw.hTake 17 rfl rfl (by kernel_rfl) (by kernel_rfl) (by kernel_rfl) (Fw.yV (Fw.val_pickT rfl rfl)) rfl ?_
      refine Fw.hDone (by kernel_rfl) ?_
      refine hK20 _ _ (Fw.FC.sub (f' := [(105, _), (104, _), (103, _), (102, _), (97, _), (101, _), (100, _), (99, _), (98, _), (96, _), (95, _), (94, _), (93, _), (86, _), (85, _), (84, _), (81, _), (80, _), (79, _), (76, _), (75, _), (72, _), (71, _), (70, _), (69, _), (38, _), (37, _), (36, _), (5, _), (0, _), (1, _)]) (.cons rfl (.cons rfl (.cons rfl (.cons rfl (.cons rfl (.cons rfl (.cons rfl (.cons rfl (.cons rfl (.cons rfl (.cons rfl (.cons rfl (.cons rfl (.cons rfl (.cons rfl (.cons rfl (.cons rfl (.cons rfl (.cons rfl (.cons rfl (.cons rfl (.cons rfl (.cons rfl (.cons rfl (.cons rfl (.cons rfl (.cons rfl (.cons rfl (.cons rfl (.cons rfl (.cons rfl .nil))))))))))))))))))))))))))))))) ?_)
      refine Fw.condF rfl ?_
      refine Fw.skip ?_
      refine Fw.X_blockN ?_
      refine hK11 _ _ ?_
      refine Fw.region ?_
      refine Fw.s (Fw.val_bin rfl rfl (Fw.b_add (Fw.i64_ok (by omega)))) rfl ?_
      refine Fw.s (Fw.val_move rfl) rfl ?_
      refine Fw.nil ?_
      refine Fw.roundEnd _ _ (by omega) ⟨k + 1, rfl, hkn, HO, HB, rfl⟩ (.cons rfl (.cons rfl (.cons rfl (.cons rfl (.cons rfl (.cons rfl .nil))))))
    · rintro hinc
      refine Fw.hTake 4 rfl rfl (by kernel_rfl) (by kernel_rfl) (by kernel_rfl) (Fw.yV (Fw.val_move rfl)) rfl ?_
      refine Fw.hTake 5 rfl rfl (by kernel_rfl) (by kernel_rfl) (by kernel_rfl) (Fw.yF (e := 92) rfl rfl rfl) rfl ?_
      refine Fw.hTake 6 rfl rfl (by kernel_rfl) (by kernel_rfl) (by kernel_rfl) (Fw.yF (e := 92) rfl rfl rfl) rfl ?_
      refine Fw.hTake 7 rfl rfl (by kernel_rfl) (by kernel_rfl) (by kernel_rfl) (Fw.yF (e := 92) rfl rfl rfl) rfl ?_
      refine Fw.hTake 8 rfl rfl (by kernel_rfl) (by kernel_rfl) (by kernel_rfl) (Fw.yF (e := 92) rfl rfl rfl) rfl ?_
      refine Fw.hTake 9 rfl rfl (by kernel_rfl) (by kernel_rfl) (by kernel_rfl) (Fw.yF (e := 92) rfl rfl rfl) rfl ?_
      refine Fw.hTake 10 rfl rfl (by kernel_rfl) (by kernel_rfl) (by kernel_rfl) (Fw.yF (e := 92) rfl rfl rfl) rfl ?_
      refine Fw.hTake 11 rfl rfl (by kernel_rfl) (by kernel_rfl) (by kernel_rfl) (Fw.yF (e := 92) rfl rfl rfl) rfl ?_
      refine Fw.hTake 12 rfl rfl (by kernel_rfl) (by kernel_rfl) (by kernel_rfl) (Fw.yF (e := 92) rfl rfl rfl) rfl ?_
      refine Fw.hTake 13 rfl rfl (by kernel_rfl) (by kernel_rfl) (by kernel_rfl) (Fw.yF (e := 92) rfl rfl rfl) rfl ?_
      refine Fw.hTake 14 rfl rfl (by kernel_rfl) (by kernel_rfl) (by kernel_rfl) (Fw.yF (e := 92) rfl rfl rfl) rfl ?_
      refine Fw.hTake 15 rfl rfl (by kernel_rfl) (by kernel_rfl) (by kernel_rfl) (Fw.yF (e := 92) rfl rfl rfl) rfl ?_
      refine Fw.hTake 16 rfl rfl (by kernel_rfl) (by kernel_rfl) (by kernel_rfl) (Fw.yF (e := 92) rfl rfl rfl) rfl ?_
      refine Fw.hTake 17 rfl rfl (by kernel_rfl) (by kernel_rfl) (by kernel_rfl) (Fw.yV (Fw.val_pickF rfl rfl)) rfl ?_
      refine Fw.hDone (by kernel_rfl) ?_
      refine hK20 _ _ (Fw.FC.sub (f' := [(105, _), (104, _), (103, _), (102, _), (101, _), (100, _), (99, _), (98, _), (97, _), (96, _), (95, _), (94, _), (93, _), (86, _), (85, _), (84, _), (81, _), (80, _), (79, _), (76, _), (75, _), (72, _), (71, _), (70, _), (69, _), (38, _), (37, _), (36, _), (5, _), (0, _), (1, _)]) (.cons rfl (.cons rfl (.cons rfl (.cons rfl (.cons rfl (.cons rfl (.cons rfl (.cons rfl (.cons rfl (.cons rfl (.cons rfl (.cons rfl (.cons rfl (.cons rfl (.cons rfl (.cons rfl (.cons rfl (.cons rfl (.cons rfl (.cons rfl (.cons rfl (.cons rfl (.cons rfl (.cons rfl (.cons rfl (.cons rfl (.cons rfl (.cons rfl (.cons rfl (.cons rfl (.cons rfl .nil))))))))))))))))))))))))))))))) ?_)
      refine Fw.condF rfl ?_
      refine Fw.skip ?_
      refine Fw.X_blockN ?_
      refine hK11 _ _ ?_
      refine Fw.region ?_
      refine Fw.s (Fw.val_bin rfl rfl (Fw.b_add (Fw.i64_ok (by omega)))) rfl ?_
      refine Fw.s (Fw.val_move rfl) rfl ?_
      refine Fw.nil ?_
      refine Fw.roundEnd _ _ (by omega) ⟨k + 1, rfl, hkn, HO, HB, rfl⟩ (.cons rfl (.cons rfl (.cons rfl (.cons rfl (.cons rfl (.cons rfl .nil))))))
  · rintro hk
    refine Fw.nil ?_
    refine hK8 _ _ ?_
    refine Fw.seq fun _ hK22 => ?_
    refine Fw.condF rfl ?_
    refine Fw.exit ?_
    refine Fw.X_exit ?_
    refine Fw.X_exit ?_
    refine Fw.X_block ?_
    refine hK5 _ _ ?_
    refine Fw.seq fun _ hK23 => ?_
    obtain rfl : k = l.length := by omega
    refine Fw.region ?_
    refine Fw.s (Fw.val_move rfl) rfl ?_
    refine Fw.call cf30 rfl rfl (assignedTo_any _ B p g c l 0 (h.low HB) hl) ?_
    rintro e_ w24 ⟨A3, cc3, rfl, HI3, hb⟩
    refine ⟨_, rfl, ?_⟩
    replace HO := own_below HO hb (Nat.le_refl _)
    replace HB := HB.trans (hb.mono HB.size)
    clear hb
    refine Fw.s (Fw.val_len Try.underlying58 rfl) rfl ?_
    refine Fw.s (Fw.Val.T (Fw.val_bin rfl rfl Fw.b_eql) (by simp [Us.of])) rfl ?_
    refine Fw.s (Fw.val_assign rfl) rfl ?_
    refine Fw.nil ?_
    refine hK23 _ _ (Fw.FC.sub (f' := [(4, _)]) (.cons rfl .nil) ?_)
    refine Fw.ret ?_
    refine Fw.ret_ [.tmp 4] [_] Try.results14 (.tmp rfl .nil) ?_
    exact ⟨rfl, HB⟩

end Go.Proofs.Ytmohhociomghhaa
