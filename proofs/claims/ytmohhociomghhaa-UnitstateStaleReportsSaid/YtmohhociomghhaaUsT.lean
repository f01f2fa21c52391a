/- Layer 27: the rest of the reference. -/
import Derived.Test.YtmohhociomghhaaUsS
namespace Go.Proofs.Ytmohhociomghhaa
set_option linter.unusedSimpArgs false
set_option linter.unusedVariables false
open Go.RowKit

set_option maxRecDepth 100000 in
set_option maxHeartbeats 1000000 in
theorem rfree_any (w : World) (A : Option Addr) (l : List Us.U) (c : Nat)  (h : Fw.RdT w 40 A (l.flatMap Us.U.cells)) (hl : l.length ≤ 256) : Calls Try.prog 28 #[.slice A l.length c] w fun e_ w' => ∃ A' c', e_ = .returned (.slice A' (Us.free l).length c') ∧ w'.ownsRow w.heap.size 3 1 (.slice A' (Us.free l).length c') (Us.free l).length ((Us.free l).map (.int .i64)) ∧ Below w.heap.size w w' := by
  refine Fw.calls Try.func28 rfl Try.ntmps28 rfl ?_
  have HB := Below.refl (w.heap.size) w
  refine Fw.seq fun _ hK1 => ?_
  refine Fw.region ?_
  refine Fw.s (Fw.val_assign rfl) rfl ?_
  refine Fw.nil ?_
  refine hK1 _ _ ?_
  refine Fw.seq fun _ hK2 => ?_
  refine Fw.region ?_
  refine Fw.s (Fw.val_assign rfl) rfl ?_
  refine Fw.nil ?_
  refine hK2 _ _ ?_
  refine Fw.seq fun _ hK3 => ?_
  refine Fw.seq fun _ hK4 => ?_
  refine Fw.region ?_
  refine Fw.s (Fw.val_assign rfl) rfl ?_
  refine Fw.nil ?_
  refine hK4 _ _ ?_
  refine Fw.block ?_
  have HN : w.ownsRow w.heap.size 3 1 (.slice none ([] : List Int).length 0) ([] : List Int).length (([] : List Int).map (.int .i64)) := ⟨rfl, .inl ⟨rfl, rfl⟩⟩
  refine Fw.loop (fun m_ f_ W_ => ∃ (k : Nat) (r_ : List Int) (A_ : Option Addr) (c_ : Nat), m_ = l.length - k ∧ k ≤ l.length ∧ r_ = Us.idx (fun u => decide (u.state = 1)) (l.take k) ∧ W_.ownsRow w.heap.size 3 1 (.slice A_ r_.length c_) r_.length (r_.map (.int .i64)) ∧ Below (w.heap.size) w W_ ∧ f_ = [(4, .int .i64 k), (3, .slice A_ r_.length c_), (0, .slice A l.length c)]) ⟨_, _, ⟨0, [], none, 0, rfl, Nat.zero_le _, rfl, HN, HB, rfl⟩, (.cons rfl (.cons rfl (.cons rfl .nil)))⟩ ?_
  clear HN HB
  rintro m5_ _ w1 ⟨k, r_, A_, c_, hm5_, hkl, hr, HN, HB, rfl⟩
  refine Fw.seq fun _ hK6 => ?_
  refine Fw.seq fun _ hK7 => ?_
  refine Fw.region ?_
  refine Fw.s (Fw.val_move rfl) rfl ?_
  refine Fw.s (Fw.val_move rfl) rfl ?_
  refine Fw.s (Fw.val_len Try.underlying28 rfl) rfl ?_
  refine Fw.s2 (Fw.val_bin rfl rfl Fw.b_lss) rfl ?_ ?_
  · rintro hk
    refine Fw.nil ?_
    refine hK7 _ _ ?_
    refine Fw.condT rfl ?_
    refine Fw.skip ?_
    refine hK6 _ _ ?_
    refine Fw.seq fun _ hK9 => ?_
    refine Fw.block ?_
    refine Fw.seq fun _ hK10 => ?_
    have hkn : k < l.length := by omega
    obtain ⟨ad, b_, o, hA, hadd, HE⟩ := Fw.rdAt Us.U.len (by decide) (h.1.low HB) k hkn
    refine Fw.region ?_
    refine Fw.s (Fw.val_move rfl) rfl ?_
    refine Fw.s (Fw.val_move rfl) rfl ?_
    refine Fw.s (Fw.val_indexR Try.underlying28 sz40 rfl hA rfl rfl hkn hadd) rfl ?_
    refine Fw.s (Fw.val_fieldAddr fl40_0 rfl rfl) rfl ?_
    refine Fw.s (Fw.val_fieldAddr fl32_3 rfl rfl) rfl ?_
    refine Fw.ld sc3 rfl (Fw.rdCell HE 3 rfl) rfl ?_
    refine Fw.s2 (Fw.val_bin rfl rfl Fw.b_eql) rfl ?_ ?_
    · rintro hq
      refine Fw.nil ?_
      refine hK10 _ _ (Fw.FC.sub (f' := [(17, _), (4, _), (3, _), (0, _)]) (.cons rfl (.cons rfl (.cons rfl (.cons rfl .nil)))) ?_)
      refine Fw.condT rfl ?_
      refine Fw.region ?_
      refine Fw.s (Fw.val_move rfl) rfl ?_
      refine Fw.s (Fw.val_move rfl) rfl ?_
      refine Fw.buildSlice [_] sl58 rfl rfl (by exact Fw.allSz rfl) (by decide) rfl ?_
      intro w2 gS20 egS20 HS20 hb
      have lgS20 : w.heap.size ≤ gS20 := by have := HB.size; omega
      clear HE
      replace HN := own_below HN hb (Nat.le_refl _)
      replace HB := HB.trans (hb.mono HB.size)
      clear hb
      clear egS20
      have hNr := Us.idx_len (fun u => decide (u.state = 1)) (l.take k)
      refine Fw.append (r_ ++ [(k : Int)]).length ((r_ ++ [(k : Int)]).map (.int .i64)) sl58 rfl rfl HN (show Rd _ _ [.int .i64 (k : Int)] from Fw.rdBlk HS20) rfl (Fw.oneCellsL rfl) (by rw [hr]; have := List.length_take (i := k) (l := l); unfold maxLen; omega) HB.size (by simp) (by rw [List.map_append]; rfl) rfl ?_
      intro A' c' w3 N_ hbb hc _
      replace HB := HB.trans hbb
      clear hbb hc HN
      have HN := N_
      clear N_
      refine Fw.s (Fw.val_assign rfl) rfl ?_
      refine Fw.nil ?_
      refine Fw.X_blockN ?_
      refine hK9 _ _ ?_
      refine Fw.region ?_
      refine Fw.s (Fw.val_move rfl) rfl ?_
      refine Fw.s (Fw.val_bin rfl rfl (Fw.b_add (Fw.i64_ok (by omega)))) rfl ?_
      refine Fw.s (Fw.val_assign rfl) rfl ?_
      refine Fw.nil ?_
      refine Fw.roundEnd _ _ (by omega) ⟨k + 1, r_ ++ [(k : Int)], A', c', rfl, hkn, by rw [hr, Us.idx_snoc _ _ _ hkn, if_pos (by simp [*])], HN, HB, rfl⟩ (.cons rfl (.cons rfl (.cons rfl .nil)))
    · rintro hq
      refine Fw.nil ?_
      refine hK10 _ _ (Fw.FC.sub (f' := [(17, _), (4, _), (3, _), (0, _)]) (.cons rfl (.cons rfl (.cons rfl (.cons rfl .nil)))) ?_)
      refine Fw.condF rfl ?_
      refine Fw.skip ?_
      refine Fw.X_blockN ?_
      refine hK9 _ _ ?_
      refine Fw.region ?_
      refine Fw.s (Fw.val_move rfl) rfl ?_
      refine Fw.s (Fw.val_bin rfl rfl (Fw.b_add (Fw.i64_ok (by omega)))) rfl ?_
      refine Fw.s (Fw.val_assign rfl) rfl ?_
      refine Fw.nil ?_
      refine Fw.roundEnd _ _ (by omega) ⟨k + 1, r_, A_, c_, rfl, hkn, by rw [hr, Us.idx_snoc _ _ _ hkn, if_neg (by simp; omega), List.append_nil], HN, HB, rfl⟩ (.cons rfl (.cons rfl (.cons rfl .nil)))
  · rintro hk
    refine Fw.nil ?_
    refine hK7 _ _ ?_
    refine Fw.condF rfl ?_
    refine Fw.exit ?_
    refine Fw.X_exit ?_
    refine Fw.X_exit ?_
    refine Fw.X_block ?_
    refine hK3 _ _ ?_
    refine Fw.seq fun _ hK13 => ?_
    obtain rfl : k = l.length := by omega
    rw [List.take_length] at hr
    subst hr
    refine Fw.region ?_
    refine Fw.s (Fw.val_move rfl) rfl ?_
    refine Fw.s (Fw.val_assign rfl) rfl ?_
    refine Fw.nil ?_
    refine hK13 _ _ (Fw.FC.sub (f' := [(2, _)]) (.cons rfl .nil) ?_)
    refine Fw.ret ?_
    refine Fw.ret_ [.tmp 2] [_] Try.results28 (.tmp rfl .nil) ?_
    exact ⟨_, _, rfl, HN, HB⟩

theorem Us.of_idx (l : List Us.U) (m : Int) : Us.of l m = Us.idx (fun u => decide (m ≠ 0 ∧ u.inc = m)) l := by
  unfold Us.of
  split
  · next h => subst h; unfold Us.idx; simp
  · next h => congr 1; funext u; simp [h]
set_option maxRecDepth 100000 in
set_option maxHeartbeats 1000000 in
theorem rof_any (w : World) (A : Option Addr) (l : List Us.U) (c : Nat) (m : Int) (h : Fw.RdT w 40 A (l.flatMap Us.U.cells)) (hl : l.length ≤ 256) : Calls Try.prog 31 #[.slice A l.length c, .int .i64 m] w fun e_ w' => ∃ A' c', e_ = .returned (.slice A' (Us.of l m).length c') ∧ w'.ownsRow w.heap.size 3 1 (.slice A' (Us.of l m).length c') (Us.of l m).length ((Us.of l m).map (.int .i64)) ∧ Below w.heap.size w w' := by
  refine Fw.calls Try.func31 rfl Try.ntmps31 rfl ?_
  have HB := Below.refl (w.heap.size) w
  refine Fw.seq fun _ hK1 => ?_
  refine Fw.region ?_
  refine Fw.s (Fw.val_assign rfl) rfl ?_
  refine Fw.nil ?_
  refine hK1 _ _ ?_
  refine Fw.seq fun _ hK2 => ?_
  refine Fw.region ?_
  refine Fw.s (Fw.val_assign rfl) rfl ?_
  refine Fw.nil ?_
  refine hK2 _ _ ?_
  refine Fw.seq fun _ hK3 => ?_
  refine Fw.seq fun _ hK4 => ?_
  refine Fw.region ?_
  refine Fw.s (Fw.val_assign rfl) rfl ?_
  refine Fw.nil ?_
  refine hK4 _ _ ?_
  refine Fw.block ?_
  have HN : w.ownsRow w.heap.size 3 1 (.slice none ([] : List Int).length 0) ([] : List Int).length (([] : List Int).map (.int .i64)) := ⟨rfl, .inl ⟨rfl, rfl⟩⟩
  refine Fw.loop (fun m_ f_ W_ => ∃ (k : Nat) (r_ : List Int) (A_ : Option Addr) (c_ : Nat), m_ = l.length - k ∧ k ≤ l.length ∧ r_ = Us.idx (fun u => decide (m ≠ 0 ∧ u.inc = m)) (l.take k) ∧ W_.ownsRow w.heap.size 3 1 (.slice A_ r_.length c_) r_.length (r_.map (.int .i64)) ∧ Below (w.heap.size) w W_ ∧ f_ = [(6, .int .i64 k), (5, .slice A_ r_.length c_), (0, .slice A l.length c), (1, .int .i64 m)]) ⟨_, _, ⟨0, [], none, 0, rfl, Nat.zero_le _, rfl, HN, HB, rfl⟩, (.cons rfl (.cons rfl (.cons rfl (.cons rfl .nil))))⟩ ?_
  clear HN HB
  rintro m5_ _ w1 ⟨k, r_, A_, c_, hm5_, hkl, hr, HN, HB, rfl⟩
  refine Fw.seq fun _ hK6 => ?_
  refine Fw.seq fun _ hK7 => ?_
  refine Fw.region ?_
  refine Fw.s (Fw.val_move rfl) rfl ?_
  refine Fw.s (Fw.val_move rfl) rfl ?_
  refine Fw.s (Fw.val_len Try.underlying28 rfl) rfl ?_
  refine Fw.s2 (Fw.val_bin rfl rfl Fw.b_lss) rfl ?_ ?_
  · rintro hk
    refine Fw.nil ?_
    refine hK7 _ _ ?_
    refine Fw.condT rfl ?_
    refine Fw.skip ?_
    refine hK6 _ _ ?_
    refine Fw.seq fun _ hK9 => ?_
    refine Fw.block ?_
    refine Fw.seq fun _ hK10 => ?_
    have hkn : k < l.length := by omega
    obtain ⟨ad, b_, o, hA, hadd, HE⟩ := Fw.rdAt Us.U.len (by decide) (h.1.low HB) k hkn
    refine Fw.region ?_
    refine Fw.s (Fw.val_move rfl) rfl ?_
    refine Fw.s2 (Fw.val_bin rfl rfl Fw.b_neq) rfl ?_ ?_
    · rintro hm0
      refine Fw.s (Fw.val_move rfl) rfl ?_
      refine Fw.gT (d := 15) rfl rfl ?_
      refine Fw.s (Fw.val_move rfl) rfl ?_
      refine Fw.gT (d := 15) rfl rfl ?_
      refine Fw.s (Fw.val_move rfl) rfl ?_
      refine Fw.gT (d := 15) rfl rfl ?_
      refine Fw.s (Fw.val_indexR Try.underlying28 sz40 rfl hA rfl rfl hkn hadd) rfl ?_
      refine Fw.gT (d := 15) rfl rfl ?_
      refine Fw.s (Fw.val_fieldAddr fl40_0 rfl rfl) rfl ?_
      refine Fw.gT (d := 15) rfl rfl ?_
      refine Fw.s (Fw.val_fieldAddr fl32_7 rfl rfl) rfl ?_
      refine Fw.gT (d := 15) rfl rfl ?_
      refine Fw.ld sc2 rfl (Fw.rdCell HE 7 rfl) rfl ?_
      refine Fw.gT (d := 15) rfl rfl ?_
      refine Fw.s (Fw.val_move rfl) rfl ?_
      refine Fw.gT (d := 15) rfl rfl ?_
      refine Fw.s2 (Fw.val_bin rfl rfl Fw.b_eql) rfl ?_ ?_
      · rintro hq
        refine Fw.s (Fw.val_pickT rfl rfl) rfl ?_
        refine Fw.nil ?_
        refine hK10 _ _ (Fw.FC.sub (f' := [(24, _), (23, _), (22, _), (21, _), (20, _), (19, _), (18, _), (17, _), (16, _), (6, _), (5, _), (0, _), (1, _)]) (.cons rfl (.cons rfl (.cons rfl (.cons rfl (.cons rfl (.cons rfl (.cons rfl (.cons rfl (.cons rfl (.cons rfl (.cons rfl (.cons rfl (.cons rfl .nil))))))))))))) ?_)
        refine Fw.condT rfl ?_
        refine Fw.region ?_
        refine Fw.s (Fw.val_move rfl) rfl ?_
        refine Fw.s (Fw.val_move rfl) rfl ?_
        refine Fw.buildSlice [_] sl58 rfl rfl (by exact Fw.allSz rfl) (by decide) rfl ?_
        intro w2 gS27 egS27 HS27 hb
        have lgS27 : w.heap.size ≤ gS27 := by have := HB.size; omega
        replace HN := own_below HN hb (Nat.le_refl _)
        replace HE := HE.low hb
        replace HB := HB.trans (hb.mono HB.size)
        clear hb
        clear egS27
        have hNr := Us.idx_len (fun u => decide (m ≠ 0 ∧ u.inc = m)) (l.take k)
        refine Fw.append (r_ ++ [(k : Int)]).length ((r_ ++ [(k : Int)]).map (.int .i64)) sl58 rfl rfl HN (show Rd _ _ [.int .i64 (k : Int)] from Fw.rdBlk HS27) rfl (Fw.oneCellsL rfl) (by rw [hr]; have := List.length_take (i := k) (l := l); unfold maxLen; omega) HB.size (by simp) (by rw [List.map_append]; rfl) rfl ?_
        intro A' c' w3 N_ hbb hc _
        replace HB := HB.trans hbb
        clear hbb hc HN
        have HN := N_
        clear N_
        refine Fw.s (Fw.val_assign rfl) rfl ?_
        refine Fw.nil ?_
        refine Fw.X_blockN ?_
        refine hK9 _ _ ?_
        refine Fw.region ?_
        refine Fw.s (Fw.val_move rfl) rfl ?_
        refine Fw.s (Fw.val_bin rfl rfl (Fw.b_add (Fw.i64_ok (by omega)))) rfl ?_
        refine Fw.s (Fw.val_assign rfl) rfl ?_
        refine Fw.nil ?_
        refine Fw.roundEnd _ _ (by omega) ⟨k + 1, r_ ++ [(k : Int)], A', c', rfl, hkn, by rw [hr, Us.idx_snoc _ _ _ hkn, if_pos (by simp [*])], HN, HB, rfl⟩ (.cons rfl (.cons rfl (.cons rfl (.cons rfl .nil))))
      · rintro hq
        refine Fw.s (Fw.val_pickT rfl rfl) rfl ?_
        refine Fw.nil ?_
        refine hK10 _ _ (Fw.FC.sub (f' := [(24, _), (23, _), (22, _), (21, _), (20, _), (19, _), (18, _), (17, _), (16, _), (6, _), (5, _), (0, _), (1, _)]) (.cons rfl (.cons rfl (.cons rfl (.cons rfl (.cons rfl (.cons rfl (.cons rfl (.cons rfl (.cons rfl (.cons rfl (.cons rfl (.cons rfl (.cons rfl .nil))))))))))))) ?_)
        refine Fw.condF rfl ?_
        refine Fw.skip ?_
        refine Fw.X_blockN ?_
        refine hK9 _ _ ?_
        refine Fw.region ?_
        refine Fw.s (Fw.val_move rfl) rfl ?_
        refine Fw.s (Fw.val_bin rfl rfl (Fw.b_add (Fw.i64_ok (by omega)))) rfl ?_
        refine Fw.s (Fw.val_assign rfl) rfl ?_
        refine Fw.nil ?_
        refine Fw.roundEnd _ _ (by omega) ⟨k + 1, r_, A_, c_, rfl, hkn, by rw [hr, Us.idx_snoc _ _ _ hkn, if_neg (by simp; omega), List.append_nil], HN, HB, rfl⟩ (.cons rfl (.cons rfl (.cons rfl (.cons rfl .nil))))
    · rintro hm0
      refine Fw.s (Fw.val_move rfl) rfl ?_
      refine Fw.gF (d := 15) rfl rfl rfl rfl ?_
      refine Fw.gF (d := 15) rfl rfl rfl rfl ?_
      refine Fw.gF (d := 15) rfl rfl rfl rfl ?_
      refine Fw.gF (d := 15) rfl rfl rfl rfl ?_
      refine Fw.gF (d := 15) rfl rfl rfl rfl ?_
      refine Fw.gF (d := 15) rfl rfl rfl rfl ?_
      refine Fw.gF (d := 15) rfl rfl rfl rfl ?_
      refine Fw.gF (d := 15) rfl rfl rfl rfl ?_
      refine Fw.s (Fw.val_pickF rfl rfl) rfl ?_
      refine Fw.nil ?_
      refine hK10 _ _ (Fw.FC.sub (f' := [(24, _), (23, _), (22, _), (21, _), (20, _), (19, _), (18, _), (17, _), (16, _), (6, _), (5, _), (0, _), (1, _)]) (.cons rfl (.cons rfl (.cons rfl (.cons rfl (.cons rfl (.cons rfl (.cons rfl (.cons rfl (.cons rfl (.cons rfl (.cons rfl (.cons rfl (.cons rfl .nil))))))))))))) ?_)
      refine Fw.condF rfl ?_
      refine Fw.skip ?_
      refine Fw.X_blockN ?_
      refine hK9 _ _ ?_
      refine Fw.region ?_
      refine Fw.s (Fw.val_move rfl) rfl ?_
      refine Fw.s (Fw.val_bin rfl rfl (Fw.b_add (Fw.i64_ok (by omega)))) rfl ?_
      refine Fw.s (Fw.val_assign rfl) rfl ?_
      refine Fw.nil ?_
      refine Fw.roundEnd _ _ (by omega) ⟨k + 1, r_, A_, c_, rfl, hkn, by rw [hr, Us.idx_snoc _ _ _ hkn, if_neg (by simp; omega), List.append_nil], HN, HB, rfl⟩ (.cons rfl (.cons rfl (.cons rfl (.cons rfl .nil))))
  · rintro hk
    refine Fw.nil ?_
    refine hK7 _ _ ?_
    refine Fw.condF rfl ?_
    refine Fw.exit ?_
    refine Fw.X_exit ?_
    refine Fw.X_exit ?_
    refine Fw.X_block ?_
    refine hK3 _ _ (Fw.FC.sub (f' := [(5, _)]) (.cons rfl .nil) ?_)
    refine Fw.seq fun _ hK14 => ?_
    obtain rfl : k = l.length := by omega
    rw [List.take_length] at hr
    subst hr
    refine Fw.region ?_
    refine Fw.s (Fw.val_move rfl) rfl ?_
    refine Fw.s (Fw.val_assign rfl) rfl ?_
    refine Fw.nil ?_
    refine hK14 _ _ ?_
    refine Fw.ret ?_
    refine Fw.ret_ [.tmp 4] [_] Try.results31 (.tmp rfl .nil) ?_
    rw [Us.of_idx]
    exact ⟨_, _, rfl, HN, HB⟩

set_option maxRecDepth 100000 in
set_option maxHeartbeats 1000000 in
theorem rorder_any (w : World) (A : Option Addr) (l : List Us.U) (c : Nat) (id : Int) (h : Fw.RdT w 40 A (l.flatMap Us.U.cells)) : Calls Try.prog 29 #[.slice A l.length c, .int .i64 id] w fun e_ w' => e_ = .returned (.tuple #[.agg (Us.ordA l id).toArray, .bool (Us.pend l id)]) ∧ Below w.heap.size w w' := by
  cases hth : Us.there l id with
  | true =>
    obtain ⟨i, hid, hi⟩ : ∃ i : Nat, id = i ∧ i < l.length := by have := of_decide_eq_true hth; exact ⟨id.toNat, by omega, by omega⟩
    have hg := Us.get_at hid hi
    obtain ⟨ad, b, o, hA, hadd, HE⟩ := Fw.rdAt Us.U.len (by decide) h.1 i hi
    refine Fw.calls Try.func29 rfl Try.ntmps29 rfl ?_
    have HB := Below.refl (w.heap.size) w
    refine Fw.seq fun _ hK1 => ?_
    refine Fw.region ?_
    refine Fw.alloc ze36 rfl ?_
    intro w1 gX4 egX4 HX4 hb
    have lgX4 : w.heap.size ≤ gX4 := by have := HB.size; omega
    replace HB := HB.trans (hb.mono HB.size)
    clear hb
    clear egX4
    refine Fw.s (Fw.val_assign rfl) rfl ?_
    refine Fw.nil ?_
    refine hK1 _ _ ?_
    refine Fw.seq fun _ hK2 => ?_
    refine Fw.seq fun _ hK3 => ?_
    refine Fw.regionQ (by kernel_rfl) (by kernel_rfl) ?_
    refine Fw.q (Fw.val_move rfl) rfl ?_
    refine Fw.q (Fw.val_move rfl) rfl ?_
    refine Fw.callQ cf49 rfl rfl (fun w_ hb_ => rthere_any _ A l c _) (fun _ _ _ h => ⟨h.1, h.2 ▸ Below.refl _ _⟩) ?_
    refine Fw.bTQ (by exact hth) ?_
    refine Fw.q (Fw.val_not rfl) rfl ?_
    refine Fw.q (Fw.val_move rfl) rfl ?_
    refine Fw.gTQ (d := 10) rfl rfl ?_
    refine Fw.q (Fw.val_move rfl) rfl ?_
    refine Fw.gTQ (d := 10) rfl rfl ?_
    refine Fw.q (Fw.val_move rfl) rfl ?_
    refine Fw.gTQ (d := 10) rfl rfl ?_
    refine Fw.q (Fw.val_indexR Try.underlying28 sz40 rfl hA rfl hid hi hadd) rfl ?_
    refine Fw.gTQ (d := 10) rfl rfl ?_
    refine Fw.q (Fw.val_fieldAddr fl40_0 rfl rfl) rfl ?_
    refine Fw.gTQ (d := 10) rfl rfl ?_
    refine Fw.q (Fw.val_fieldAddr fl32_9 rfl rfl) rfl ?_
    refine Fw.gTQ (d := 10) rfl rfl ?_
    refine Fw.ldQ sc2 rfl (Fw.rdCell (HE.low HB) 9 rfl) rfl ?_
    refine Fw.gTQ (d := 10) rfl rfl ?_
    refine Fw.q (Fw.val_move rfl) rfl ?_
    refine Fw.gTQ (d := 10) rfl rfl ?_
    refine Fw.q (Fw.val_move rfl) rfl ?_
    refine Fw.gTQ (d := 10) rfl rfl ?_
    refine Fw.q (Fw.val_indexR Try.underlying28 sz40 rfl hA rfl hid hi hadd) rfl ?_
    refine Fw.gTQ (d := 10) rfl rfl ?_
    refine Fw.q (Fw.val_fieldAddr fl40_0 rfl rfl) rfl ?_
    refine Fw.gTQ (d := 10) rfl rfl ?_
    refine Fw.q (Fw.val_fieldAddr fl32_8 rfl rfl) rfl ?_
    refine Fw.gTQ (d := 10) rfl rfl ?_
    refine Fw.ldQ sc2 rfl (Fw.rdCell (HE.low HB) 8 rfl) rfl ?_
    refine Fw.gTQ (d := 10) rfl rfl ?_
    refine Fw.q2 (Fw.val_bin rfl rfl Fw.b_geq) rfl ?_ ?_
    · rintro hq
      refine Fw.q (Fw.val_pickF rfl rfl) rfl ?_
      refine Fw.nilQ ?_
      intro w2 hb
      replace HX4 := HX4.low hb
      replace HB := HB.trans (hb.mono HB.size)
      clear hb
      refine hK3 _ _ (Fw.FC.sub (f' := [(24, _), (4, _), (0, _), (1, _)]) (.cons rfl (.cons rfl (.cons rfl (.cons rfl .nil)))) ?_)
      refine Fw.condT rfl ?_
      refine Fw.seq fun _ hK7 => ?_
      refine Fw.region ?_
      refine Fw.s (Fw.val_build (ps := []) rfl (bu36_)) rfl ?_
      refine Fw.storeW sz36 rfl rfl HX4 rfl rfl (by exact Fw.oneCells rfl) ?_
      intro w3 N_ hc
      replace HB := HB.trans (hc.below (B := w.heap.size) (fun k e => by omega) HB.size)
      clear hc
      clear HX4
      have HX4 := N_
      clear N_
      refine Fw.s (Fw.val_assign rfl) rfl ?_
      refine Fw.nil ?_
      refine hK7 _ _ ?_
      refine Fw.ret ?_
      refine Fw.X_ret ?_
      refine Fw.ret_ [.cell 4 36, .tmp 5] [_, _] Try.results29 (Fw.ResL.cellM rfl ag36 (Fw.rdBlk HX4) rfl (.tmp rfl .nil)) ?_
      have hp : Us.pend l id = false := by unfold Us.pend; rw [hth, hg, decide_eq_false (by omega)]; rfl
      rw [show Us.ordA l id = Us.U.ord Us.zero by unfold Us.ordA Us.ordI; rw [hp]; rfl, hp]
      exact ⟨rfl, HB⟩
    · rintro hq
      refine Fw.q (Fw.val_pickF rfl rfl) rfl ?_
      refine Fw.nilQ ?_
      intro w4 hb
      replace HX4 := HX4.low hb
      replace HB := HB.trans (hb.mono HB.size)
      clear hb
      refine hK3 _ _ (Fw.FC.sub (f' := [(24, _), (4, _), (0, _), (1, _)]) (.cons rfl (.cons rfl (.cons rfl (.cons rfl .nil)))) ?_)
      refine Fw.condF rfl ?_
      refine Fw.skip ?_
      refine hK2 _ _ ?_
      refine Fw.seq fun _ hK8 => ?_
      refine Fw.region ?_
      refine Fw.s (Fw.val_move rfl) rfl ?_
      refine Fw.s (Fw.val_move rfl) rfl ?_
      refine Fw.s (Fw.val_indexR Try.underlying28 sz40 rfl hA rfl hid hi hadd) rfl ?_
      refine Fw.s (Fw.val_fieldAddr fl40_1 rfl rfl) rfl ?_
      refine Fw.ldA ag36 rfl (Fw.rdPart (HE.low HB) 10 5) rfl rfl ?_
      refine Fw.storeW sz36 rfl rfl HX4 rfl rfl (by exact Fw.oneCells rfl) ?_
      intro w5 N_ hc
      replace HB := HB.trans (hc.below (B := w.heap.size) (fun k e => by omega) HB.size)
      clear hc
      clear HX4
      have HX4 := N_
      clear N_
      refine Fw.s (Fw.val_assign rfl) rfl ?_
      refine Fw.nil ?_
      refine hK8 _ _ (Fw.FC.sub (f' := [(5, _), (4, _)]) (.cons rfl (.cons rfl .nil)) ?_)
      refine Fw.ret ?_
      refine Fw.ret_ [.cell 4 36, .tmp 5] [_, _] Try.results29 (Fw.ResL.cellM rfl ag36 (Fw.rdBlk HX4) rfl (.tmp rfl .nil)) ?_
      have hp : Us.pend l id = true := by unfold Us.pend; rw [hth, hg, decide_eq_true (by omega)]; rfl
      rw [show Us.ordA l id = Us.U.ord l[i] by unfold Us.ordA Us.ordI; rw [hp, hg]; rfl, hp]
      exact ⟨rfl, HB⟩
  | false =>
    refine Fw.calls Try.func29 rfl Try.ntmps29 rfl ?_
    have HB := Below.refl (w.heap.size) w
    refine Fw.seq fun _ hK1 => ?_
    refine Fw.region ?_
    refine Fw.alloc ze36 rfl ?_
    intro w1 gX4 egX4 HX4 hb
    have lgX4 : w.heap.size ≤ gX4 := by have := HB.size; omega
    replace HB := HB.trans (hb.mono HB.size)
    clear hb
    clear egX4
    refine Fw.s (Fw.val_assign rfl) rfl ?_
    refine Fw.nil ?_
    refine hK1 _ _ ?_
    refine Fw.seq fun _ hK2 => ?_
    refine Fw.seq fun _ hK3 => ?_
    refine Fw.regionQ (by kernel_rfl) (by kernel_rfl) ?_
    refine Fw.q (Fw.val_move rfl) rfl ?_
    refine Fw.q (Fw.val_move rfl) rfl ?_
    refine Fw.callQ cf49 rfl rfl (fun w_ hb_ => rthere_any _ A l c _) (fun _ _ _ h => ⟨h.1, h.2 ▸ Below.refl _ _⟩) ?_
    refine Fw.bFQ (by exact hth) ?_
    refine Fw.q (Fw.val_not rfl) rfl ?_
    refine Fw.q (Fw.val_move rfl) rfl ?_
    refine Fw.gFQ (d := 10) rfl rfl rfl rfl ?_
    refine Fw.gFQ (d := 10) rfl rfl rfl rfl ?_
    refine Fw.gFQ (d := 10) rfl rfl rfl rfl ?_
    refine Fw.gFQ (d := 10) rfl rfl rfl rfl ?_
    refine Fw.gFQ (d := 10) rfl rfl rfl rfl ?_
    refine Fw.gFQ (d := 10) rfl rfl rfl rfl ?_
    refine Fw.gFQ (d := 10) rfl rfl rfl rfl ?_
    refine Fw.gFQ (d := 10) rfl rfl rfl rfl ?_
    refine Fw.gFQ (d := 10) rfl rfl rfl rfl ?_
    refine Fw.gFQ (d := 10) rfl rfl rfl rfl ?_
    refine Fw.gFQ (d := 10) rfl rfl rfl rfl ?_
    refine Fw.gFQ (d := 10) rfl rfl rfl rfl ?_
    refine Fw.gFQ (d := 10) rfl rfl rfl rfl ?_
    refine Fw.q (Fw.val_pickT rfl rfl) rfl ?_
    refine Fw.nilQ ?_
    intro w2 hb
    replace HX4 := HX4.low hb
    replace HB := HB.trans (hb.mono HB.size)
    clear hb
    refine hK3 _ _ (Fw.FC.sub (f' := [(24, _), (4, _), (0, _), (1, _)]) (.cons rfl (.cons rfl (.cons rfl (.cons rfl .nil)))) ?_)
    refine Fw.condT rfl ?_
    refine Fw.seq fun _ hK4 => ?_
    refine Fw.region ?_
    refine Fw.s (Fw.val_build (ps := []) rfl (bu36_)) rfl ?_
    refine Fw.storeW sz36 rfl rfl HX4 rfl rfl (by exact Fw.oneCells rfl) ?_
    intro w3 N_ hc
    replace HB := HB.trans (hc.below (B := w.heap.size) (fun k e => by omega) HB.size)
    clear hc
    clear HX4
    have HX4 := N_
    clear N_
    refine Fw.s (Fw.val_assign rfl) rfl ?_
    refine Fw.nil ?_
    refine hK4 _ _ ?_
    refine Fw.ret ?_
    refine Fw.X_ret ?_
    refine Fw.ret_ [.cell 4 36, .tmp 5] [_, _] Try.results29 (Fw.ResL.cellM rfl ag36 (Fw.rdBlk HX4) rfl (.tmp rfl .nil)) ?_
    have hp : Us.pend l id = false := by unfold Us.pend; rw [hth]; rfl
    rw [show Us.ordA l id = Us.U.ord Us.zero by unfold Us.ordA Us.ordI; rw [hp]; rfl, hp]
    exact ⟨rfl, HB⟩

set_option maxRecDepth 100000 in
set_option maxHeartbeats 1000000 in
theorem rturn_any (w : World) (A : Option Addr) (l : List Us.U) (c : Nat) (a b : Int) (h : Fw.RdT w 40 A (l.flatMap Us.U.cells)) (hl : l.length ≤ 256) : Calls Try.prog 40 #[.slice A l.length c, .int .i64 a, .int .i64 b] w fun e_ w' => ∃ A' c', e_ = .returned (.slice A' (Us.turnL l a b).length c') ∧ Fw.RdT w' 40 A' ((Us.turnL l a b).flatMap Us.U.cells) ∧ Below w.heap.size w w' := by
  refine Fw.calls Try.func40 rfl Try.ntmps40 rfl ?_
  have HB := Below.refl (w.heap.size) w
  refine Fw.seq fun _ hK1 => ?_
  refine Fw.region ?_
  refine Fw.s (Fw.val_assign rfl) rfl ?_
  refine Fw.nil ?_
  refine hK1 _ _ ?_
  refine Fw.seq fun _ hK2 => ?_
  refine Fw.seq fun _ hK3 => ?_
  refine Fw.region ?_
  refine Fw.s (Fw.val_move rfl) rfl ?_
  refine Fw.s2 (Fw.val_bin rfl rfl Fw.b_lss) rfl ?_ ?_
  · rintro t1
    refine Fw.s (Fw.val_move rfl) rfl ?_
    refine Fw.gF (d := 11) rfl rfl rfl rfl ?_
    refine Fw.gF (d := 11) rfl rfl rfl rfl ?_
    refine Fw.s (Fw.val_pickT rfl rfl) rfl ?_
    refine Fw.s (Fw.val_move rfl) rfl ?_
    refine Fw.gF (d := 15) rfl rfl rfl rfl ?_
    refine Fw.gF (d := 15) rfl rfl rfl rfl ?_
    refine Fw.s (Fw.val_pickT rfl rfl) rfl ?_
    refine Fw.s (Fw.val_move rfl) rfl ?_
    refine Fw.gF (d := 19) rfl rfl rfl rfl ?_
    refine Fw.gF (d := 19) rfl rfl rfl rfl ?_
    refine Fw.s (Fw.val_pickT rfl rfl) rfl ?_
    refine Fw.nil ?_
    refine hK3 _ _ (Fw.FC.sub (f' := [(22, _), (0, _), (1, _), (2, _)]) (.cons rfl (.cons rfl (.cons rfl (.cons rfl .nil)))) ?_)
    refine Fw.condT rfl ?_
    refine Fw.seq fun _ hK5 => ?_
    refine Fw.region ?_
    refine Fw.s (Fw.val_move rfl) rfl ?_
    refine Fw.s (Fw.val_assign rfl) rfl ?_
    refine Fw.nil ?_
    refine hK5 _ _ ?_
    refine Fw.ret ?_
    refine Fw.X_ret ?_
    refine Fw.ret_ [.tmp 6] [_] Try.results40 (.tmp rfl .nil) ?_
    rw [show Us.turnL l a b = l by unfold Us.turnL; rw [show Us.incB a = false from decide_eq_false (by omega)]; simp]
    exact ⟨_, _, rfl, h.low HB, HB⟩
  · rintro t1
    refine Fw.s (Fw.val_move rfl) rfl ?_
    refine Fw.gT (d := 11) rfl rfl ?_
    refine Fw.s (Fw.val_move rfl) rfl ?_
    refine Fw.gT (d := 11) rfl rfl ?_
    refine Fw.s2 (Fw.val_bin rfl rfl Fw.b_gtr) rfl ?_ ?_
    · rintro t2
      refine Fw.s (Fw.val_pickF rfl rfl) rfl ?_
      refine Fw.s (Fw.val_move rfl) rfl ?_
      refine Fw.gF (d := 15) rfl rfl rfl rfl ?_
      refine Fw.gF (d := 15) rfl rfl rfl rfl ?_
      refine Fw.s (Fw.val_pickT rfl rfl) rfl ?_
      refine Fw.s (Fw.val_move rfl) rfl ?_
      refine Fw.gF (d := 19) rfl rfl rfl rfl ?_
      refine Fw.gF (d := 19) rfl rfl rfl rfl ?_
      refine Fw.s (Fw.val_pickT rfl rfl) rfl ?_
      refine Fw.nil ?_
      refine hK3 _ _ (Fw.FC.sub (f' := [(22, _), (0, _), (1, _), (2, _)]) (.cons rfl (.cons rfl (.cons rfl (.cons rfl .nil)))) ?_)
      refine Fw.condT rfl ?_
      refine Fw.seq fun _ hK7 => ?_
      refine Fw.region ?_
      refine Fw.s (Fw.val_move rfl) rfl ?_
      refine Fw.s (Fw.val_assign rfl) rfl ?_
      refine Fw.nil ?_
      refine hK7 _ _ ?_
      refine Fw.ret ?_
      refine Fw.X_ret ?_
      refine Fw.ret_ [.tmp 6] [_] Try.results40 (.tmp rfl .nil) ?_
      rw [show Us.turnL l a b = l by unfold Us.turnL; rw [show Us.incB a = false from decide_eq_false (by omega)]; simp]
      exact ⟨_, _, rfl, h.low HB, HB⟩
    · rintro t2
      refine Fw.s (Fw.val_pickF rfl rfl) rfl ?_
      refine Fw.s (Fw.val_move rfl) rfl ?_
      refine Fw.gT (d := 15) rfl rfl ?_
      refine Fw.s (Fw.val_move rfl) rfl ?_
      refine Fw.gT (d := 15) rfl rfl ?_
      refine Fw.s2 (Fw.val_bin rfl rfl Fw.b_lss) rfl ?_ ?_
      · rintro t3
        refine Fw.s (Fw.val_pickF rfl rfl) rfl ?_
        refine Fw.s (Fw.val_move rfl) rfl ?_
        refine Fw.gF (d := 19) rfl rfl rfl rfl ?_
        refine Fw.gF (d := 19) rfl rfl rfl rfl ?_
        refine Fw.s (Fw.val_pickT rfl rfl) rfl ?_
        refine Fw.nil ?_
        refine hK3 _ _ (Fw.FC.sub (f' := [(22, _), (0, _), (1, _), (2, _)]) (.cons rfl (.cons rfl (.cons rfl (.cons rfl .nil)))) ?_)
        refine Fw.condT rfl ?_
        refine Fw.seq fun _ hK9 => ?_
        refine Fw.region ?_
        refine Fw.s (Fw.val_move rfl) rfl ?_
        refine Fw.s (Fw.val_assign rfl) rfl ?_
        refine Fw.nil ?_
        refine hK9 _ _ ?_
        refine Fw.ret ?_
        refine Fw.X_ret ?_
        refine Fw.ret_ [.tmp 6] [_] Try.results40 (.tmp rfl .nil) ?_
        rw [show Us.turnL l a b = l by unfold Us.turnL; rw [show Us.incB b = false from decide_eq_false (by omega)]; simp]
        exact ⟨_, _, rfl, h.low HB, HB⟩
      · rintro t3
        refine Fw.s (Fw.val_pickF rfl rfl) rfl ?_
        refine Fw.s (Fw.val_move rfl) rfl ?_
        refine Fw.gT (d := 19) rfl rfl ?_
        refine Fw.s (Fw.val_move rfl) rfl ?_
        refine Fw.gT (d := 19) rfl rfl ?_
        refine Fw.s2 (Fw.val_bin rfl rfl Fw.b_gtr) rfl ?_ ?_
        · rintro t4
          refine Fw.s (Fw.val_pickF rfl rfl) rfl ?_
          refine Fw.nil ?_
          refine hK3 _ _ (Fw.FC.sub (f' := [(22, _), (0, _), (1, _), (2, _)]) (.cons rfl (.cons rfl (.cons rfl (.cons rfl .nil)))) ?_)
          refine Fw.condT rfl ?_
          refine Fw.seq fun _ hK11 => ?_
          refine Fw.region ?_
          refine Fw.s (Fw.val_move rfl) rfl ?_
          refine Fw.s (Fw.val_assign rfl) rfl ?_
          refine Fw.nil ?_
          refine hK11 _ _ ?_
          refine Fw.ret ?_
          refine Fw.X_ret ?_
          refine Fw.ret_ [.tmp 6] [_] Try.results40 (.tmp rfl .nil) ?_
          rw [show Us.turnL l a b = l by unfold Us.turnL; rw [show Us.incB b = false from decide_eq_false (by omega)]; simp]
          exact ⟨_, _, rfl, h.low HB, HB⟩
        · rintro t4
          refine Fw.s (Fw.val_pickF rfl rfl) rfl ?_
          refine Fw.nil ?_
          refine hK3 _ _ (Fw.FC.sub (f' := [(22, _), (0, _), (1, _), (2, _)]) (.cons rfl (.cons rfl (.cons rfl (.cons rfl .nil)))) ?_)
          refine Fw.condF rfl ?_
          refine Fw.skip ?_
          refine hK2 _ _ ?_
          refine Fw.seq fun _ hK12 => ?_
          refine Fw.region ?_
          refine Fw.buildSlice [] sl28 rfl rfl (by exact Fw.allSz rfl) (by decide) rfl ?_
          intro w1 gS24 egS24 HS24 hb
          have lgS24 : w.heap.size ≤ gS24 := by have := HB.size; omega
          replace HB := HB.trans (hb.mono HB.size)
          clear hb
          clear egS24
          refine Fw.s (Fw.val_move rfl) rfl ?_
          refine Fw.append l.length (l.flatMap Us.U.cells) sl28 rfl rfl (Fw.ownBlk (base := w.heap.size) (n := 0) (size := 15) HS24 (by omega) (by unfold maxLen; omega) rfl) (h.1.low HB) (Fw.flat_len Us.U.len l) (Us.cells_one l) (by unfold maxLen; omega) HB.size (by omega) rfl rfl ?_
          intro A' c' w2 HN hbb hc hrow
          obtain ⟨gN, rfl⟩ := Fw.own_some HN hrow rfl
          have lgN := (HN.lt gN rfl).1
          replace HB := HB.trans hbb
          clear hbb hc hrow HS24
          refine Fw.s (Fw.val_assign rfl) rfl ?_
          refine Fw.nil ?_
          refine hK12 _ _ ?_
          refine Fw.seq fun _ hK13 => ?_
          refine Fw.seq fun _ hK14 => ?_
          refine Fw.region ?_
          refine Fw.s (Fw.val_assign rfl) rfl ?_
          refine Fw.nil ?_
          refine hK14 _ _ ?_
          refine Fw.block ?_
          replace HN : w2.ownsRow w.heap.size 40 15 (.slice (some ⟨gN, 0, none⟩) l.length c') l.length ((Fw.mix (l.map (fun u : Us.U => if u.inc = a then { u with inc := b } else u)) l 0).flatMap Us.U.cells) := by rw [Fw.mix_zero]; exact HN
          refine Fw.loop (fun m_ f_ W_ => ∃ (k : Nat), m_ = l.length - k ∧ k ≤ l.length ∧ W_.ownsRow w.heap.size 40 15 (.slice (some ⟨gN, 0, none⟩) l.length c') l.length ((Fw.mix (l.map (fun u : Us.U => if u.inc = a then { u with inc := b } else u)) l k).flatMap Us.U.cells) ∧ Below (w.heap.size) w W_ ∧ f_ = [(8, .int .i64 k), (7, .slice (some ⟨gN, 0, none⟩) l.length c'), (1, .int .i64 a), (2, .int .i64 b)]) ⟨_, _, ⟨0, rfl, Nat.zero_le _, HN, HB, rfl⟩, (.cons rfl (.cons rfl (.cons rfl (.cons rfl .nil))))⟩ ?_
          clear HN HB
          rintro m15_ _ w3 ⟨k, hm15_, hkl, HN, HB, rfl⟩
          refine Fw.seq fun _ hK16 => ?_
          refine Fw.seq fun _ hK17 => ?_
          refine Fw.region ?_
          refine Fw.s (Fw.val_move rfl) rfl ?_
          refine Fw.s (Fw.val_move rfl) rfl ?_
          refine Fw.s (Fw.val_len Try.underlying28 rfl) rfl ?_
          refine Fw.s2 (Fw.val_bin rfl rfl Fw.b_lss) rfl ?_ ?_
          · rintro hk
            refine Fw.nil ?_
            refine hK17 _ _ ?_
            refine Fw.condT rfl ?_
            refine Fw.skip ?_
            refine hK16 _ _ ?_
            refine Fw.seq fun _ hK19 => ?_
            refine Fw.block ?_
            refine Fw.seq fun _ hK20 => ?_
            have hkn : k < l.length := by omega
            have HAt := Fw.At.mopen (k := k) Us.U.len (by simp) hkn HN
            clear HN
            refine Fw.region ?_
            refine Fw.s (Fw.val_move rfl) rfl ?_
            refine Fw.s (Fw.val_move rfl) rfl ?_
            refine Fw.s (Fw.val_indexR Try.underlying28 sz40 rfl rfl rfl rfl hkn (Fw.add0 gN (k * 15))) rfl ?_
            refine Fw.s (Fw.val_fieldAddr fl40_0 rfl rfl) rfl ?_
            refine Fw.s (Fw.val_fieldAddr fl32_7 rfl rfl) rfl ?_
            refine Fw.ld sc2 rfl (HAt.cell Us.U.len 7 rfl) rfl ?_
            refine Fw.s (Fw.val_move rfl) rfl ?_
            refine Fw.s2 (Fw.val_bin rfl rfl Fw.b_eql) rfl ?_ ?_
            · rintro hq
              refine Fw.nil ?_
              refine hK20 _ _ (Fw.FC.sub (f' := [(40, _), (8, _), (7, _), (1, _), (2, _)]) (.cons rfl (.cons rfl (.cons rfl (.cons rfl (.cons rfl .nil))))) ?_)
              refine Fw.condT rfl ?_
              refine Fw.region ?_
              refine Fw.s (Fw.val_move rfl) rfl ?_
              refine Fw.s (Fw.val_move rfl) rfl ?_
              refine Fw.s (Fw.val_move rfl) rfl ?_
              refine Fw.s (Fw.val_indexR Try.underlying28 sz40 rfl rfl rfl rfl hkn (Fw.add0 gN (k * 15))) rfl ?_
              refine Fw.s (Fw.val_fieldAddr fl40_0 rfl rfl) rfl ?_
              refine Fw.s (Fw.val_fieldAddr fl32_7 rfl rfl) rfl ?_
              refine Fw.storeI Us.U.len sz2 rfl rfl HAt rfl rfl rfl ?_
              intro w4 N_ hc
              replace HB := HB.trans (hc.below (B := w.heap.size) (fun k e => by omega) HB.size)
              clear hc
              clear HAt
              have HAt := N_
              clear N_
              refine Fw.nil ?_
              refine Fw.X_blockN ?_
              refine hK19 _ _ (Fw.FC.sub (f' := [(8, _), (7, _), (1, _), (2, _)]) (.cons rfl (.cons rfl (.cons rfl (.cons rfl .nil)))) ?_)
              refine Fw.region ?_
              refine Fw.s (Fw.val_move rfl) rfl ?_
              refine Fw.s (Fw.val_bin rfl rfl (Fw.b_add (Fw.i64_ok (by omega)))) rfl ?_
              refine Fw.s (Fw.val_assign rfl) rfl ?_
              refine Fw.nil ?_
              have HN := Fw.At.mclose (by simp) hkn ({ l[k] with inc := b }) (by rw [List.getElem_map]; exact if_pos hq) HAt
              clear HAt
              refine Fw.roundEnd _ _ (by omega) ⟨k + 1, rfl, hkn, HN, HB, rfl⟩ (.cons rfl (.cons rfl (.cons rfl (.cons rfl .nil))))
            · rintro hq
              refine Fw.nil ?_
              refine hK20 _ _ (Fw.FC.sub (f' := [(40, _), (8, _), (7, _), (1, _), (2, _)]) (.cons rfl (.cons rfl (.cons rfl (.cons rfl (.cons rfl .nil))))) ?_)
              refine Fw.condF rfl ?_
              refine Fw.skip ?_
              refine Fw.X_blockN ?_
              refine hK19 _ _ ?_
              refine Fw.region ?_
              refine Fw.s (Fw.val_move rfl) rfl ?_
              refine Fw.s (Fw.val_bin rfl rfl (Fw.b_add (Fw.i64_ok (by omega)))) rfl ?_
              refine Fw.s (Fw.val_assign rfl) rfl ?_
              refine Fw.nil ?_
              have HN := Fw.At.mclose (by simp) hkn (l[k]) (by rw [List.getElem_map]; exact if_neg hq) HAt
              clear HAt
              refine Fw.roundEnd _ _ (by omega) ⟨k + 1, rfl, hkn, HN, HB, rfl⟩ (.cons rfl (.cons rfl (.cons rfl (.cons rfl .nil))))
          · rintro hk
            refine Fw.nil ?_
            refine hK17 _ _ ?_
            refine Fw.condF rfl ?_
            refine Fw.exit ?_
            refine Fw.X_exit ?_
            refine Fw.X_exit ?_
            refine Fw.X_block ?_
            refine hK13 _ _ (Fw.FC.sub (f' := [(7, _)]) (.cons rfl .nil) ?_)
            refine Fw.seq fun _ hK24 => ?_
            refine Fw.region ?_
            refine Fw.s (Fw.val_move rfl) rfl ?_
            refine Fw.s (Fw.val_assign rfl) rfl ?_
            refine Fw.nil ?_
            refine hK24 _ _ ?_
            refine Fw.ret ?_
            refine Fw.ret_ [.tmp 6] [_] Try.results40 (.tmp rfl .nil) ?_
            obtain rfl : k = l.length := by omega
            rw [Fw.mix_all (by simp) rfl] at HN
            rw [show Us.turnL l a b = l.map (fun u : Us.U => if u.inc = a then { u with inc := b } else u) by unfold Us.turnL; rw [show Us.incB a = true from decide_eq_true (by omega), show Us.incB b = true from decide_eq_true (by omega)]; rfl]
            exact ⟨_, _, by rw [List.length_map]; rfl, Fw.RdT.own HN, HB⟩

end Go.Proofs.Ytmohhociomghhaa
