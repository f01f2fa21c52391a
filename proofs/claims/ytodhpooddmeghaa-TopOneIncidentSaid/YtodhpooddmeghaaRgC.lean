/- Layer 9: the queue. -/
import Derived.Test.YtodhpooddmeghaaRgB
namespace Go.Proofs.Ytodhpooddmeghaa
set_option linter.unusedSimpArgs false
set_option linter.unusedVariables false
open Go.RowKit

namespace Sp
theorem mem_swap {l : List Int} {i j : Nat} (hi : i < l.length) (hj : j < l.length) (y : Int) : y ∈ (l.set i l[j]).set j l[i] ↔ y ∈ l := by
  constructor
  intro h
  rcases List.mem_or_eq_of_mem_set h with h | h
  rcases List.mem_or_eq_of_mem_set h with h | h
  exact h
  rw [h]; exact List.getElem_mem _
  rw [h]; exact List.getElem_mem _
  intro h
  obtain ⟨k, hk, rfl⟩ := List.getElem_of_mem h
  by_cases h1 : k = i
  subst h1
  exact List.mem_iff_getElem.2 ⟨j, by simpa using hj, by simp⟩
  by_cases h2 : k = j
  subst h2
  exact List.mem_iff_getElem.2 ⟨i, by simpa using hi, by rw [List.getElem_set_ne (by omega), List.getElem_set_self]⟩
  exact List.mem_iff_getElem.2 ⟨k, by simpa using hk, by rw [List.getElem_set_ne (by omega), List.getElem_set_ne (by omega)]⟩
theorem mem_pop {l : List Int} (h0 : 0 < l.length) (y : Int) : y ∈ l ↔ y = l[0] ∨ y ∈ (l.set 0 (l[l.length - 1]'(by omega))).take (l.length - 1) := by
  have hlen : ((l.set 0 (l[l.length - 1]'(by omega))).take (l.length - 1)).length = l.length - 1 := by simp
  constructor
  intro h
  obtain ⟨k, hk, rfl⟩ := List.getElem_of_mem h
  by_cases h1 : k = 0
  subst h1; exact .inl rfl
  right
  by_cases h2 : k = l.length - 1
  subst h2
  refine List.mem_iff_getElem.2 ⟨0, by omega, ?_⟩
  rw [List.getElem_take, List.getElem_set_self]
  refine List.mem_iff_getElem.2 ⟨k, by omega, ?_⟩
  rw [List.getElem_take, List.getElem_set_ne (by omega)]
  rintro (h | h)
  rw [h]; exact List.getElem_mem _
  have h := List.mem_of_mem_take h
  rcases List.mem_or_eq_of_mem_set h with h | h
  exact h
  rw [h]; exact List.getElem_mem _
theorem quoN {P : Program} {t : TypeId} {a b : Operand} {x : Int} (h : 0 ≤ x) (h2 : x ≤ 4611686018427387904) : Fw.Bin P .quo t a b (.int .i64 x) (.int .i64 4096) (.int .i64 (x / 4096)) := Fw.b_quo (by decide) (by rw [Int.tdiv_eq_ediv_of_nonneg h]; exact Fw.i64_ok (by omega))
theorem remN {P : Program} {t : TypeId} {a b : Operand} {x : Int} (h : 0 ≤ x) : Fw.Bin P .rem t a b (.int .i64 x) (.int .i64 4096) (.int .i64 (x % 4096)) := Fw.b_rem (by decide) (Int.tmod_eq_emod_of_nonneg h)
theorem half {i : Nat} (h : 0 < i) (hi : i ≤ 8796093022299) : IntKind.i64.wrap (((i : Int) - 1).tdiv 2) = (((i - 1) / 2 : Nat) : Int) := by
  have e : ((i : Int) - 1).tdiv 2 = (((i - 1) / 2 : Nat) : Int) := by
    rw [Int.tdiv_eq_ediv_of_nonneg (by omega)]; omega
  rw [e]
  exact Fw.i64_ok (by omega)
end Sp
namespace Fw
theorem kf_own {w w' : World} {base e size k : Nat} {v : Value} {xs : List Value} (h : Chg (fun g => some g = v.ownBlock) w w') (ho : w.ownsRow base e size v k xs) : KeepsFrom 0 w w' := ⟨h.size, fun q o _ hq hc => by
  rw [h.block q (Array.getElem?_eq_some_iff.1 hq).1 (fun e => ?_)]
  exact hq
  rcases ho.2 with ⟨rfl, _⟩ | ⟨g, cap, cur, rfl, _, hh, _⟩
  simp [Value.ownBlock] at e
  have e : q = g := by simpa [Value.ownBlock] using e
  subst e
  rw [hh] at hq; injection hq with hq; subst hq; cases hc⟩
theorem kf_row {w w' : World} {base e size k g c n : Nat} {xs : List Value} (h : Chg (· = g) w w') (ho : w.ownsRow base e size (.slice (some ⟨g, 0, none⟩) n c) k xs) : KeepsFrom 0 w w' := kf_own (v := .slice (some ⟨g, 0, none⟩) n c) (h.mono fun k _ e => by simp [Value.ownBlock]; exact e) ho
end Fw
set_option maxRecDepth 100000 in
set_option maxHeartbeats 1000000 in
theorem push_any (w : World) (gq rb : Nat) (l : List Int) (h : Rg.QAt w gq rb l) (hl : l.length ≤ 8796093022208) (δ v : Int) (h0 : 0 ≤ δ) (h1 : δ ≤ 1125899906842624) (h2 : 0 ≤ v) (h3 : v < 4096) : Calls Try.prog 69 #[.pointer (some ⟨gq, 0, none⟩), .int .i64 δ, .int .i64 v] w fun e_ w' => ∃ l' rb', e_ = .returned (.tuple #[]) ∧ ((∀ y, y ∈ l' ↔ y = δ * 4096 + v ∨ y ∈ l) ∧ l'.length = l.length + 1) ∧ Rg.QAt w' gq rb' l' ∧ (rb' = rb ∨ w.heap.size ≤ rb') ∧ Chg (fun k => k = gq ∨ k = rb) w w' ∧ KeepsFrom 0 w w' := by
  obtain ⟨A, c, HQ, HO, hrb⟩ := h
  have hgo := HO.lt
  have HK := KeepsFrom.refl 0 w
  have hown : ∀ g, some g = (Value.slice A l.length c).ownBlock → g = rb ∧ gq < g := fun g e => by
    have h5 := hgo g e.symm
    rw [ownBlock_slice] at e
    cases A with
    | none => cases e
    | some ad => injection e with e; exact ⟨by rw [hrb]; exact e, h5.1⟩
  refine Fw.calls Try.func69 rfl Try.ntmps69 rfl ?_
  have HC := Chg.refl (fun k => k = gq ∨ k = rb) w
  refine Fw.seq fun _ hK1 => ?_
  refine Fw.region ?_
  refine Fw.s (Fw.val_move rfl) rfl ?_
  refine Fw.s (Fw.val_nil rfl) rfl ?_
  refine Fw.ld sc134 rfl (HQ.cell 0) rfl ?_
  refine Fw.s (Fw.val_move rfl) rfl ?_
  refine Fw.s (Fw.val_bin rfl rfl (Fw.b_mul (Fw.i64_ok (by omega)))) rfl ?_
  refine Fw.s (Fw.val_move rfl) rfl ?_
  refine Fw.s (Fw.val_bin rfl rfl (Fw.b_add (Fw.i64_ok (by omega)))) rfl ?_
  refine Fw.buildSlice [_] sl134 rfl rfl (by exact Fw.allSz rfl) (by decide) rfl ?_
  intro w1 gS15 egS15 HS15 hb
  have n_gq_gS15 : gq < gS15 := by have := HQ.lt; omega
  have lgS15 : w.heap.size ≤ gS15 := by have := HC.size; omega
  replace HQ := HQ.low hb
  replace HK := HK.trans (Fw.kf_low hb)
  replace HO := own_below HO hb (Nat.le_refl _)
  replace HC := HC.trans (Chg.of_below hb (fun k => k = gq ∨ k = rb)) (fun _ _ h => h)
  clear hb
  clear egS15
  refine Fw.append (l.length + 1) ((l ++ [(δ * 4096 + v)]).map (.int .i64)) sl134 rfl rfl HO (show Rd _ _ [.int .i64 (δ * 4096 + v)] from Fw.rdBlk HS15) rfl (Fw.oneCellsL rfl) (by unfold maxLen; omega) (by have := HQ.lt; omega) rfl (by simp) rfl ?_
  intro A16 c16 w2 N_ hbb hc hrow
  replace HK := HK.trans (Fw.kf_own hc HO)
  replace HQ := HQ.chg hc (fun e => by have := (hown _ e).2; omega)
  have hsz1 := HC.size
  replace HC := HC.trans hc (fun k _ e => by have := (hown _ e).1; show k = gq ∨ k = rb; omega)
  obtain ⟨gr, rfl, hgq, hgl⟩ := Fw.own_form0 N_ (by omega)
  have hgr : gr = rb ∨ w.heap.size ≤ gr := by
    rcases hrow with e | e
    left; exact (hown gr (show some gr = _ from e)).1
    right; have e : gr = _ := Option.some.inj e; omega
  clear hbb hc hrow HO HS15
  have HO := N_
  clear N_
  refine Fw.s (Fw.val_assign rfl) rfl ?_
  refine Fw.nil ?_
  refine hK1 _ _ (Fw.FC.sub (f' := [(6, _), (0, _)]) (.cons rfl (.cons rfl .nil)) ?_)
  refine Fw.seq fun _ hK2 => ?_
  refine Fw.region ?_
  refine Fw.s (Fw.val_move rfl) rfl ?_
  refine Fw.s (Fw.val_len Try.underlying134 rfl) rfl ?_
  refine Fw.s (Fw.val_bin rfl rfl (Fw.b_sub (r := (l.length : Int)) (by rw [Fw.i64_ok (by omega)]; omega))) rfl ?_
  refine Fw.s (Fw.val_assign rfl) rfl ?_
  refine Fw.nil ?_
  refine hK2 _ _ ?_
  refine Fw.seq fun _ hK3 => ?_
  refine Fw.block ?_
  refine Fw.loop (fun m_ f_ W_ => ∃ (i : Nat) (l' : List Int), m_ = i ∧ l'.length = l.length + 1 ∧ i < l'.length ∧ (∀ y, y ∈ l' ↔ y = (δ * 4096 + v) ∨ y ∈ l) ∧ Blk W_ gq 134 #[.slice A l.length c] ∧ KeepsFrom 0 w W_ ∧ World.ownsRow W_ (gq + 1) 2 1 (.slice (some ⟨gr, 0, none⟩) (l.length + 1) c16) (l.length + 1) ((l').map (.int .i64)) ∧ Chg (fun k => k = gq ∨ k = rb) w W_ ∧ f_ = [(7, .int .i64 i), (6, .slice (some ⟨gr, 0, none⟩) (l.length + 1) c16), (0, .pointer (some ⟨gq, 0, none⟩))]) ⟨_, _, ⟨l.length, l ++ [(δ * 4096 + v)], rfl, by simp, by simp, fun y => by simp [or_comm], HQ, HK, HO, HC, rfl⟩, (.cons rfl (.cons rfl (.cons rfl .nil)))⟩ ?_
  clear HQ HK HO HC
  rintro m4_ _ w3 ⟨i, l', hm4_, hll, hil, hm, HQ, HK, HO, HC, rfl⟩
  refine Fw.seq fun _ hK5 => ?_
  refine Fw.seq fun _ hK6 => ?_
  have hj : (i - 1) / 2 < l'.length := by omega
  refine Fw.regionQ (by kernel_rfl) (by kernel_rfl) ?_
  refine Fw.q (Fw.val_move rfl) rfl ?_
  refine Fw.q2 (Fw.val_bin rfl rfl Fw.b_gtr) rfl ?_ ?_
  rintro hi0
  refine Fw.q (Fw.val_move rfl) rfl ?_
  refine Fw.gTQ (d := 22) rfl rfl ?_
  refine Fw.q (Fw.val_move rfl) rfl ?_
  refine Fw.gTQ (d := 22) rfl rfl ?_
  refine Fw.q (Fw.val_move rfl) rfl ?_
  refine Fw.gTQ (d := 22) rfl rfl ?_
  have HCa := Rg.own_cell HO _ hil
  refine Fw.q (Fw.val_indexR Try.underlying134 sz2 rfl rfl rfl rfl (by omega) (by rw [Fw.add_flat, Nat.zero_add, Nat.mul_one])) rfl ?_
  refine Fw.gTQ (d := 22) rfl rfl ?_
  refine Fw.ldQ sc2 rfl (HCa) rfl ?_
  refine Fw.gTQ (d := 22) rfl rfl ?_
  refine Fw.q (Fw.val_move rfl) rfl ?_
  refine Fw.gTQ (d := 22) rfl rfl ?_
  refine Fw.q (Fw.val_move rfl) rfl ?_
  refine Fw.gTQ (d := 22) rfl rfl ?_
  refine Fw.q (Fw.val_bin rfl rfl (Fw.b_sub (Fw.i64_ok (by omega)))) rfl ?_
  refine Fw.gTQ (d := 22) rfl rfl ?_
  refine Fw.q (Fw.val_bin rfl rfl (Fw.b_quo (by decide) (Sp.half (by omega) (by omega)))) rfl ?_
  refine Fw.gTQ (d := 22) rfl rfl ?_
  have HCb := Rg.own_cell HO _ hj
  refine Fw.q (Fw.val_indexR Try.underlying134 sz2 rfl rfl rfl rfl (by omega) (by rw [Fw.add_flat, Nat.zero_add, Nat.mul_one])) rfl ?_
  refine Fw.gTQ (d := 22) rfl rfl ?_
  refine Fw.ldQ sc2 rfl (HCb) rfl ?_
  refine Fw.gTQ (d := 22) rfl rfl ?_
  refine Fw.q2 (Fw.val_bin rfl rfl Fw.b_lss) rfl ?_ ?_
  rintro hlt
  refine Fw.q (Fw.val_pickT rfl rfl) rfl ?_
  refine Fw.nilQ ?_
  intro w4 hb
  replace HQ := HQ.low hb
  replace HK := HK.trans (Fw.kf_low hb)
  replace HO := own_below HO hb (Nat.le_refl _)
  replace HCa := (hb.cell (World.block_lt_of_cell? _ _ HCa)).trans HCa
  replace HCb := (hb.cell (World.block_lt_of_cell? _ _ HCb)).trans HCb
  replace HC := HC.trans (Chg.of_below hb (fun k => k = gq ∨ k = rb)) (fun _ _ h => h)
  clear hb
  refine hK6 _ _ ?_
  refine Fw.condT rfl ?_
  refine Fw.skip ?_
  refine hK5 _ _ ?_
  refine Fw.block ?_
  refine Fw.seq fun _ hK11 => ?_
  refine Fw.regionHS (Chg (· = gr) w4) (by kernel_rfl) (Chg.of_below (Fw.drew_low w4) _) ?_
  have R_HQ := HQ
  have R_HCa := HCa
  have R_HCb := HCb
  intro w5 hb HS
  replace HQ := HQ.low hb
  replace HK := HK.trans (Fw.kf_low hb)
  replace HO := own_below HO hb (Nat.le_refl _)
  replace HCa := (hb.cell (World.block_lt_of_cell? _ _ HCa)).trans HCa
  replace HCb := (hb.cell (World.block_lt_of_cell? _ _ HCb)).trans HCb
  replace HC := HC.trans (Chg.of_below hb (fun k => k = gq ∨ k = rb)) (fun _ _ h => h)
  clear hb
  refine Fw.hTk 0 rfl rfl (Fw.yV (Fw.val_move rfl)) rfl ?_
  refine Fw.hTk 1 rfl rfl (Fw.yV (Fw.val_move rfl)) rfl ?_
  refine Fw.hTk 2 rfl rfl (Fw.yV (Fw.val_move rfl)) rfl ?_
  refine Fw.hTk 3 rfl rfl (Fw.yV (Fw.val_move rfl)) rfl ?_
  refine Fw.hTk 4 rfl rfl (Fw.yV (Fw.val_bin rfl rfl (Fw.b_sub (Fw.i64_ok (by omega))))) rfl ?_
  refine Fw.hTk 5 rfl rfl (Fw.yV (Fw.val_bin rfl rfl (Fw.b_quo (by decide) (Sp.half (by omega) (by omega))))) rfl ?_
  refine Fw.hTk 6 rfl rfl (Fw.yV (Fw.val_move rfl)) rfl ?_
  refine Fw.hTk 7 rfl rfl (Fw.yV (Fw.val_move rfl)) rfl ?_
  refine Fw.hTk 8 rfl rfl (Fw.yV (Fw.val_bin rfl rfl (Fw.b_sub (Fw.i64_ok (by omega))))) rfl ?_
  refine Fw.hTk 9 rfl rfl (Fw.yV (Fw.val_bin rfl rfl (Fw.b_quo (by decide) (Sp.half (by omega) (by omega))))) rfl ?_
  have HCb := Rg.own_cell HO _ hj
  refine Fw.hTk 10 rfl rfl (Fw.yV (Fw.val_indexR Try.underlying134 sz2 rfl rfl rfl rfl (by omega) (by rw [Fw.add_flat, Nat.zero_add, Nat.mul_one]))) rfl ?_
  refine Fw.hTk 12 rfl rfl (Fw.yV (Fw.val_move rfl)) rfl ?_
  refine Fw.hTk 13 rfl rfl (Fw.yV (Fw.val_move rfl)) rfl ?_
  have HCa := Rg.own_cell HO _ hil
  refine Fw.hTk 14 rfl rfl (Fw.yV (Fw.val_indexR Try.underlying134 sz2 rfl rfl rfl rfl (by omega) (by rw [Fw.add_flat, Nat.zero_add, Nat.mul_one]))) rfl ?_
  refine Fw.hAll2 11 15 (by kernel_rfl) ?_ ?_
  refine Fw.hOp 11 rfl ?_
  refine Fw.ld sc2 rfl (HCb) rfl ?_
  refine Fw.hNext HS ?_
  refine Fw.hAll1 15 (by kernel_rfl) ?_
  refine Fw.hOp 15 rfl ?_
  refine Fw.ld sc2 rfl (HCa) rfl ?_
  refine Fw.hNext HS ?_
  have EW14 := True.intro
  refine Fw.hTk 16 rfl rfl (Fw.yV (Fw.val_indexR Try.underlying134 sz2 rfl rfl rfl rfl (by omega) (by rw [Fw.add_flat, Nat.zero_add, Nat.mul_one]))) rfl ?_
  refine Fw.hAll1 17 (by kernel_rfl) ?_
  refine Fw.hOp 17 rfl ?_
  refine Fw.storeR sz2 rfl rfl HO (by simpa using hil) rfl rfl ?_
  intro w6 N_ hc
  replace HQ := HQ.chg hc (by omega)
  replace HK := HK.trans (Fw.kf_row hc HO)
  replace HS := HS.trans hc (fun _ _ h => h)
  replace HC := HC.trans hc (fun k hk_ e => by show k = gq ∨ k = rb; omega)
  clear hc
  clear HO EW14
  have HO := N_
  clear N_
  replace HO : World.ownsRow w6 (gq + 1) 2 1 (.slice (some ⟨gr, 0, none⟩) (l.length + 1) c16) (l.length + 1) ((l'.set i l'[(i - 1) / 2]).map (.int .i64)) := by simpa using HO
  refine Fw.hNext HS ?_
  have EW16 := True.intro
  refine Fw.hTk 18 rfl rfl (Fw.yV (Fw.val_indexR Try.underlying134 sz2 rfl rfl rfl rfl (by omega) (by rw [Fw.add_flat, Nat.zero_add, Nat.mul_one]))) rfl ?_
  refine Fw.hAll1 19 (by kernel_rfl) ?_
  refine Fw.hOp 19 rfl ?_
  refine Fw.storeR sz2 rfl rfl HO (by simp; omega) rfl rfl ?_
  intro w7 N_ hc
  replace HQ := HQ.chg hc (by omega)
  replace HK := HK.trans (Fw.kf_row hc HO)
  replace HS := HS.trans hc (fun _ _ h => h)
  replace HC := HC.trans hc (fun k hk_ e => by show k = gq ∨ k = rb; omega)
  clear hc
  clear HO EW16
  have HO := N_
  clear N_
  replace HO : World.ownsRow w7 (gq + 1) 2 1 (.slice (some ⟨gr, 0, none⟩) (l.length + 1) c16) (l.length + 1) (((l'.set i l'[(i - 1) / 2]).set ((i - 1) / 2) l'[i]).map (.int .i64)) := by simpa using HO
  refine Fw.hNext HS ?_
  refine Fw.hDone (by kernel_rfl) ?_
  refine hK11 _ _ (Fw.FC.sub (f' := [(33, _), (32, _), (31, _), (30, _), (29, _), (28, _), (27, _), (26, _), (25, _), (24, _), (23, _), (7, _), (6, _), (0, _)]) (.cons rfl (.cons rfl (.cons rfl (.cons rfl (.cons rfl (.cons rfl (.cons rfl (.cons rfl (.cons rfl (.cons rfl (.cons rfl (.cons rfl (.cons rfl (.cons rfl .nil)))))))))))))) ?_)
  refine Fw.region ?_
  refine Fw.s (Fw.val_move rfl) rfl ?_
  refine Fw.s (Fw.val_bin rfl rfl (Fw.b_sub (Fw.i64_ok (by omega)))) rfl ?_
  refine Fw.s (Fw.val_bin rfl rfl (Fw.b_quo (by decide) (Sp.half (by omega) (by omega)))) rfl ?_
  refine Fw.s (Fw.val_assign rfl) rfl ?_
  refine Fw.nil ?_
  refine Fw.X_blockN ?_
  refine Fw.roundEnd _ _ (by omega) ⟨(i - 1) / 2, (l'.set i l'[(i - 1) / 2]).set ((i - 1) / 2) l'[i], rfl, by simpa using hll, by simp; omega, fun y => (Sp.mem_swap hil hj y).trans (hm y), HQ, HK, HO, HC, rfl⟩ (.cons rfl (.cons rfl (.cons rfl .nil)))
  refine Fw.hOp 15 rfl ?_
  refine Fw.ld sc2 rfl (HCa) rfl ?_
  refine Fw.hNext HS ?_
  refine Fw.hAll1 11 (by kernel_rfl) ?_
  refine Fw.hOp 11 rfl ?_
  refine Fw.ld sc2 rfl (HCb) rfl ?_
  refine Fw.hNext HS ?_
  have EW18 := True.intro
  refine Fw.hTk 16 rfl rfl (Fw.yV (Fw.val_indexR Try.underlying134 sz2 rfl rfl rfl rfl (by omega) (by rw [Fw.add_flat, Nat.zero_add, Nat.mul_one]))) rfl ?_
  refine Fw.hAll1 17 (by kernel_rfl) ?_
  refine Fw.hOp 17 rfl ?_
  refine Fw.storeR sz2 rfl rfl HO (by simpa using hil) rfl rfl ?_
  intro w8 N_ hc
  replace HQ := HQ.chg hc (by omega)
  replace HK := HK.trans (Fw.kf_row hc HO)
  replace HS := HS.trans hc (fun _ _ h => h)
  replace HC := HC.trans hc (fun k hk_ e => by show k = gq ∨ k = rb; omega)
  clear hc
  clear HO EW18
  have HO := N_
  clear N_
  replace HO : World.ownsRow w8 (gq + 1) 2 1 (.slice (some ⟨gr, 0, none⟩) (l.length + 1) c16) (l.length + 1) ((l'.set i l'[(i - 1) / 2]).map (.int .i64)) := by simpa using HO
  refine Fw.hNext HS ?_
  have EW20 := True.intro
  refine Fw.hTk 18 rfl rfl (Fw.yV (Fw.val_indexR Try.underlying134 sz2 rfl rfl rfl rfl (by omega) (by rw [Fw.add_flat, Nat.zero_add, Nat.mul_one]))) rfl ?_
  refine Fw.hAll1 19 (by kernel_rfl) ?_
  refine Fw.hOp 19 rfl ?_
  refine Fw.storeR sz2 rfl rfl HO (by simp; omega) rfl rfl ?_
  intro w9 N_ hc
  replace HQ := HQ.chg hc (by omega)
  replace HK := HK.trans (Fw.kf_row hc HO)
  replace HS := HS.trans hc (fun _ _ h => h)
  replace HC := HC.trans hc (fun k hk_ e => by show k = gq ∨ k = rb; omega)
  clear hc
  clear HO EW20
  have HO := N_
  clear N_
  replace HO : World.ownsRow w9 (gq + 1) 2 1 (.slice (some ⟨gr, 0, none⟩) (l.length + 1) c16) (l.length + 1) (((l'.set i l'[(i - 1) / 2]).set ((i - 1) / 2) l'[i]).map (.int .i64)) := by simpa using HO
  refine Fw.hNext HS ?_
  refine Fw.hDone (by kernel_rfl) ?_
  refine hK11 _ _ (Fw.FC.sub (f' := [(33, _), (32, _), (31, _), (30, _), (29, _), (28, _), (27, _), (26, _), (25, _), (24, _), (23, _), (7, _), (6, _), (0, _)]) (.cons rfl (.cons rfl (.cons rfl (.cons rfl (.cons rfl (.cons rfl (.cons rfl (.cons rfl (.cons rfl (.cons rfl (.cons rfl (.cons rfl (.cons rfl (.cons rfl .nil)))))))))))))) ?_)
  refine Fw.region ?_
  refine Fw.s (Fw.val_move rfl) rfl ?_
  refine Fw.s (Fw.val_bin rfl rfl (Fw.b_sub (Fw.i64_ok (by omega)))) rfl ?_
  refine Fw.s (Fw.val_bin rfl rfl (Fw.b_quo (by decide) (Sp.half (by omega) (by omega)))) rfl ?_
  refine Fw.s (Fw.val_assign rfl) rfl ?_
  refine Fw.nil ?_
  refine Fw.X_blockN ?_
  refine Fw.roundEnd _ _ (by omega) ⟨(i - 1) / 2, (l'.set i l'[(i - 1) / 2]).set ((i - 1) / 2) l'[i], rfl, by simpa using hll, by simp; omega, fun y => (Sp.mem_swap hil hj y).trans (hm y), HQ, HK, HO, HC, rfl⟩ (.cons rfl (.cons rfl (.cons rfl .nil)))
  rintro hlt
  refine Fw.q (Fw.val_pickT rfl rfl) rfl ?_
  refine Fw.nilQ ?_
  intro w10 hb
  replace HQ := HQ.low hb
  replace HK := HK.trans (Fw.kf_low hb)
  replace HO := own_below HO hb (Nat.le_refl _)
  replace HCa := (hb.cell (World.block_lt_of_cell? _ _ HCa)).trans HCa
  replace HCb := (hb.cell (World.block_lt_of_cell? _ _ HCb)).trans HCb
  replace HC := HC.trans (Chg.of_below hb (fun k => k = gq ∨ k = rb)) (fun _ _ h => h)
  clear hb
  refine hK6 _ _ ?_
  refine Fw.condF rfl ?_
  refine Fw.exit ?_
  refine Fw.X_exit ?_
  refine Fw.X_exit ?_
  refine Fw.X_block ?_
  refine hK3 _ _ (Fw.FC.sub (f' := [(6, _), (0, _)]) (.cons rfl (.cons rfl .nil)) ?_)
  refine Fw.region ?_
  refine Fw.s (Fw.val_move rfl) rfl ?_
  refine Fw.s (Fw.val_move rfl) rfl ?_
  refine Fw.s (Fw.val_nil rfl) rfl ?_
  refine Fw.store sz134 rfl rfl HQ rfl rfl rfl ?_
  intro w11 N_ hc
  clear HCa
  clear HCb
  replace HK := HK.trans (Fw.kf_chg hc HQ)
  replace HO := own_to HO hc (fun g_ h_ e_ => by injection h_ with h_; have h_ : gr = g_ := h_; omega)
  replace HC := HC.trans hc (fun k hk_ e => by show k = gq ∨ k = rb; omega)
  clear hc
  clear HQ
  have HQ := N_
  clear N_
  refine Fw.nil ?_
  refine Fw.end_ [] [] Try.results69 .nil ?_
  exact ⟨l', gr, rfl, ⟨hm, hll⟩, ⟨some ⟨gr, 0, none⟩, c16, by rw [hll]; exact HQ, by rw [hll]; exact HO, rfl⟩, hgr, HC, HK⟩
  rintro hi0
  refine Fw.q (Fw.val_move rfl) rfl ?_
  refine Fw.gFQ (d := 22) rfl rfl rfl rfl ?_
  refine Fw.gFQ (d := 22) rfl rfl rfl rfl ?_
  refine Fw.gFQ (d := 22) rfl rfl rfl rfl ?_
  refine Fw.gFQ (d := 22) rfl rfl rfl rfl ?_
  refine Fw.gFQ (d := 22) rfl rfl rfl rfl ?_
  refine Fw.gFQ (d := 22) rfl rfl rfl rfl ?_
  refine Fw.gFQ (d := 22) rfl rfl rfl rfl ?_
  refine Fw.gFQ (d := 22) rfl rfl rfl rfl ?_
  refine Fw.gFQ (d := 22) rfl rfl rfl rfl ?_
  refine Fw.gFQ (d := 22) rfl rfl rfl rfl ?_
  refine Fw.gFQ (d := 22) rfl rfl rfl rfl ?_
  refine Fw.q (Fw.val_pickF rfl rfl) rfl ?_
  refine Fw.nilQ ?_
  intro w12 hb
  replace HQ := HQ.low hb
  replace HK := HK.trans (Fw.kf_low hb)
  replace HO := own_below HO hb (Nat.le_refl _)
  replace HC := HC.trans (Chg.of_below hb (fun k => k = gq ∨ k = rb)) (fun _ _ h => h)
  clear hb
  refine hK6 _ _ ?_
  refine Fw.condF rfl ?_
  refine Fw.exit ?_
  refine Fw.X_exit ?_
  refine Fw.X_exit ?_
  refine Fw.X_block ?_
  refine hK3 _ _ (Fw.FC.sub (f' := [(6, _), (0, _)]) (.cons rfl (.cons rfl .nil)) ?_)
  refine Fw.region ?_
  refine Fw.s (Fw.val_move rfl) rfl ?_
  refine Fw.s (Fw.val_move rfl) rfl ?_
  refine Fw.s (Fw.val_nil rfl) rfl ?_
  refine Fw.store sz134 rfl rfl HQ rfl rfl rfl ?_
  intro w13 N_ hc
  replace HK := HK.trans (Fw.kf_chg hc HQ)
  replace HO := own_to HO hc (fun g_ h_ e_ => by injection h_ with h_; have h_ : gr = g_ := h_; omega)
  replace HC := HC.trans hc (fun k hk_ e => by show k = gq ∨ k = rb; omega)
  clear hc
  clear HQ
  have HQ := N_
  clear N_
  refine Fw.nil ?_
  refine Fw.end_ [] [] Try.results69 .nil ?_
  exact ⟨l', gr, rfl, ⟨hm, hll⟩, ⟨some ⟨gr, 0, none⟩, c16, by rw [hll]; exact HQ, by rw [hll]; exact HO, rfl⟩, hgr, HC, HK⟩

set_option maxRecDepth 100000 in
set_option maxHeartbeats 1000000 in
theorem pop_any (w : World) (gq rb : Nat) (l : List Int) (h : Rg.QAt w gq rb l) (hl : l.length ≤ 8796093022208) (hpos : 0 < l.length) (hb : ∀ y ∈ l, 0 ≤ y ∧ y ≤ 4611686018427387904) : Calls Try.prog 71 #[.pointer (some ⟨gq, 0, none⟩)] w fun e_ w' => ∃ x l' rb', e_ = .returned (.tuple #[.int .i64 (x / 4096), .int .i64 (x % 4096)]) ∧ ((∀ y, y ∈ l ↔ y = x ∨ y ∈ l') ∧ l'.length + 1 = l.length) ∧ Rg.QAt w' gq rb' l' ∧ (rb' = rb ∨ w.heap.size ≤ rb') ∧ Chg (fun k => k = gq ∨ k = rb) w w' ∧ KeepsFrom 0 w w' := by
  obtain ⟨A, c, HQ, HO, hrb⟩ := h
  obtain ⟨gr, rfl, hgq, hgl⟩ := Fw.own_form0 HO hpos
  have hrb : rb = gr := hrb
  have hcap := (own_cap HO).1
  have hlast : l.length - 1 < l.length := by omega
  have hx0 := hb _ (List.getElem_mem hpos)
  have HK := KeepsFrom.refl 0 w
  refine Fw.calls Try.func71 rfl Try.ntmps71 rfl ?_
  have HC := Chg.refl (fun k => k = gq ∨ k = rb) w
  refine Fw.seq fun _ hK1 => ?_
  refine Fw.region ?_
  refine Fw.s (Fw.val_assign rfl) rfl ?_
  refine Fw.s (Fw.val_assign rfl) rfl ?_
  refine Fw.nil ?_
  refine hK1 _ _ ?_
  refine Fw.seq fun _ hK2 => ?_
  refine Fw.region ?_
  refine Fw.s (Fw.val_move rfl) rfl ?_
  refine Fw.s (Fw.val_nil rfl) rfl ?_
  refine Fw.ld sc134 rfl (HQ.cell 0) rfl ?_
  refine Fw.s (Fw.val_assign rfl) rfl ?_
  refine Fw.nil ?_
  refine hK2 _ _ ?_
  refine Fw.seq fun _ hK3 => ?_
  refine Fw.region ?_
  refine Fw.s (Fw.val_move rfl) rfl ?_
  have HCa := Rg.own_cell HO _ hpos
  refine Fw.s (Fw.val_indexR Try.underlying134 sz2 rfl rfl rfl rfl hpos (by rw [Fw.add_flat, Nat.zero_add, Nat.mul_one])) rfl ?_
  refine Fw.ld sc2 rfl (HCa) rfl ?_
  refine Fw.s (Fw.val_move rfl) rfl ?_
  refine Fw.s (Fw.val_len Try.underlying134 rfl) rfl ?_
  refine Fw.s (Fw.val_bin rfl rfl (Fw.b_sub (Fw.i64_ok (by omega)))) rfl ?_
  refine Fw.s (Fw.val_assign rfl) rfl ?_
  refine Fw.s (Fw.val_assign rfl) rfl ?_
  refine Fw.nil ?_
  refine hK3 _ _ (Fw.FC.sub (f' := [(6, _), (5, _), (4, _), (0, _)]) (.cons rfl (.cons rfl (.cons rfl (.cons rfl .nil)))) ?_)
  refine Fw.seq fun _ hK5 => ?_
  refine Fw.region ?_
  refine Fw.s (Fw.val_move rfl) rfl ?_
  refine Fw.s (Fw.val_move rfl) rfl ?_
  refine Fw.s (Fw.val_move rfl) rfl ?_
  have HCb := Rg.own_cell HO _ hlast
  refine Fw.s (Fw.val_indexR Try.underlying134 sz2 rfl rfl rfl (by omega) hlast (by rw [Fw.add_flat, Nat.zero_add, Nat.mul_one])) rfl ?_
  refine Fw.ld sc2 rfl (HCb) rfl ?_
  have EW7 := True.intro
  refine Fw.s (Fw.val_indexR Try.underlying134 sz2 rfl rfl rfl rfl hpos (by rw [Fw.add_flat, Nat.zero_add, Nat.mul_one])) rfl ?_
  refine Fw.storeR sz2 rfl rfl HO (by simpa using hpos) rfl rfl ?_
  intro w1 N_ hc
  replace HQ := HQ.chg hc (by omega)
  replace HK := HK.trans (Fw.kf_row hc HO)
  replace HC := HC.trans hc (fun k hk_ e => by show k = gq ∨ k = rb; omega)
  clear hc
  clear HO EW7
  have HO := N_
  clear N_
  replace HO : World.ownsRow w1 (gq + 1) 2 1 (.slice (some ⟨gr, 0, none⟩) l.length c) l.length (((l.set 0 l[l.length - 1])).map (.int .i64)) := by simpa using HO
  refine Fw.nil ?_
  refine hK5 _ _ ?_
  refine Fw.seq fun _ hK9 => ?_
  refine Fw.region ?_
  refine Fw.s (Fw.val_move rfl) rfl ?_
  refine Fw.s (Fw.val_move rfl) rfl ?_
  refine Fw.s (Fw.val_sliceTo (m := (l.length - 1)) Try.underlying134 sz2 rfl rfl (by omega) (by omega)) rfl ?_
  refine Fw.s (Fw.val_assign rfl) rfl ?_
  refine Fw.nil ?_
  refine hK9 _ _ (Fw.FC.sub (f' := [(4, _), (5, _), (0, _)]) (.cons rfl (.cons rfl (.cons rfl .nil))) ?_)
  refine Fw.seq fun _ hK10 => ?_
  refine Fw.seq fun _ hK11 => ?_
  replace HO : World.ownsRow w1 (gq + 1) 2 1 (.slice (some ⟨gr, 0, none⟩) (l.length - 1) c) (l.length - 1) (((l.set 0 l[l.length - 1]).take (l.length - 1)).map (.int .i64)) := by have := own_take HO (l.length - 1) (by omega); rw [Nat.mul_one, ← List.map_take] at this; exact this
  refine Fw.region ?_
  refine Fw.s (Fw.val_assign rfl) rfl ?_
  refine Fw.nil ?_
  refine hK11 _ _ ?_
  refine Fw.block ?_
  refine Fw.loop (fun m_ f_ W_ => ∃ (i : Nat) (l' : List Int), m_ = l.length - i ∧ l'.length = l.length - 1 ∧ i ≤ l.length ∧ (∀ y, y ∈ l ↔ y = l[0] ∨ y ∈ l') ∧ Blk W_ gq 134 #[.slice (some ⟨gr, 0, none⟩) l.length c] ∧ KeepsFrom 0 w W_ ∧ World.ownsRow W_ (gq + 1) 2 1 (.slice (some ⟨gr, 0, none⟩) (l.length - 1) c) (l.length - 1) ((l').map (.int .i64)) ∧ Chg (fun k => k = gq ∨ k = rb) w W_ ∧ f_ = [(7, .int .i64 i), (4, .slice (some ⟨gr, 0, none⟩) (l.length - 1) c), (5, .int .i64 l[0]), (0, .pointer (some ⟨gq, 0, none⟩))]) ⟨_, _, ⟨0, (l.set 0 l[l.length - 1]).take (l.length - 1), rfl, by simp, Nat.zero_le _, Sp.mem_pop hpos, HQ, HK, HO, HC, rfl⟩, (.cons rfl (.cons rfl (.cons rfl (.cons rfl .nil))))⟩ ?_
  clear HQ HK HO HC
  rintro m12_ _ w2 ⟨i, l', hm12_, hll, hil, hm, HQ, HK, HO, HC, rfl⟩
  refine Fw.block ?_
  refine Fw.seq fun _ hK13 => ?_
  refine Fw.region ?_
  refine Fw.s (Fw.val_move rfl) rfl ?_
  refine Fw.s (Fw.val_bin rfl rfl (Fw.b_mul (Fw.i64_ok (by omega)))) rfl ?_
  refine Fw.s (Fw.val_bin rfl rfl (Fw.b_add (Fw.i64_ok (by omega)))) rfl ?_
  refine Fw.s (Fw.val_assign rfl) rfl ?_
  refine Fw.nil ?_
  refine hK13 _ _ ?_
  refine Fw.seq fun _ hK14 => ?_
  refine Fw.seq fun _ hK15 => ?_
  refine Fw.region ?_
  refine Fw.s (Fw.val_move rfl) rfl ?_
  refine Fw.s (Fw.val_move rfl) rfl ?_
  refine Fw.s (Fw.val_len Try.underlying134 rfl) rfl ?_
  refine Fw.s2 (Fw.val_bin rfl rfl Fw.b_geq) rfl ?_ ?_
  rintro h33
  refine Fw.nil ?_
  refine hK15 _ _ ?_
  refine Fw.condT rfl ?_
  refine Fw.exit ?_
  refine Fw.X_exit ?_
  refine Fw.X_blockO rfl ?_
  refine Fw.X_exit ?_
  refine Fw.X_block ?_
  refine hK10 _ _ (Fw.FC.sub (f' := [(4, _), (5, _), (0, _)]) (.cons rfl (.cons rfl (.cons rfl .nil))) ?_)
  refine Fw.seq fun _ hK17 => ?_
  refine Fw.region ?_
  refine Fw.s (Fw.val_move rfl) rfl ?_
  refine Fw.s (Fw.val_move rfl) rfl ?_
  refine Fw.s (Fw.val_nil rfl) rfl ?_
  refine Fw.store sz134 rfl rfl HQ rfl rfl rfl ?_
  intro w3 N_ hc
  replace HK := HK.trans (Fw.kf_chg hc HQ)
  replace HO := own_to HO hc (fun g_ h_ e_ => by injection h_ with h_; have h_ : gr = g_ := h_; omega)
  replace HC := HC.trans hc (fun k hk_ e => by show k = gq ∨ k = rb; omega)
  clear hc
  clear HQ
  have HQ := N_
  clear N_
  refine Fw.nil ?_
  refine hK17 _ _ ?_
  refine Fw.seq fun _ hK18 => ?_
  refine Fw.region ?_
  refine Fw.s (Fw.val_move rfl) rfl ?_
  refine Fw.s (Fw.val_bin rfl rfl (Sp.quoN hx0.1 hx0.2)) rfl ?_
  refine Fw.s (Fw.val_move rfl) rfl ?_
  refine Fw.s (Fw.val_bin rfl rfl (Sp.remN hx0.1)) rfl ?_
  refine Fw.s (Fw.val_assign rfl) rfl ?_
  refine Fw.s (Fw.val_assign rfl) rfl ?_
  refine Fw.nil ?_
  refine hK18 _ _ (Fw.FC.sub (f' := [(3, _), (2, _)]) (.cons rfl (.cons rfl .nil)) ?_)
  refine Fw.ret ?_
  refine Fw.ret_ [.tmp 2, .tmp 3] [_, _] Try.results71 (.tmp rfl (.tmp rfl .nil)) ?_
  exact ⟨l[0], l', gr, rfl, ⟨hm, by omega⟩, ⟨some ⟨gr, 0, none⟩, c, by rw [hll]; exact HQ, by rw [hll]; exact HO, rfl⟩, .inl hrb.symm, HC, HK⟩
  rintro h33
  refine Fw.nil ?_
  refine hK15 _ _ ?_
  refine Fw.condF rfl ?_
  refine Fw.skip ?_
  refine hK14 _ _ (Fw.FC.sub (f' := [(8, _), (7, _), (4, _), (5, _), (0, _)]) (.cons rfl (.cons rfl (.cons rfl (.cons rfl (.cons rfl .nil))))) ?_)
  refine Fw.seq fun _ hK19 => ?_
  refine Fw.seq fun _ hK20 => ?_
  refine Fw.regionQ (by kernel_rfl) (by kernel_rfl) ?_
  refine Fw.q (Fw.val_move rfl) rfl ?_
  refine Fw.q (Fw.val_bin rfl rfl (Fw.b_add (Fw.i64_ok (by omega)))) rfl ?_
  refine Fw.q (Fw.val_move rfl) rfl ?_
  refine Fw.q (Fw.val_len Try.underlying134 rfl) rfl ?_
  refine Fw.q2 (Fw.val_bin rfl rfl Fw.b_lss) rfl ?_ ?_
  rintro h38
  refine Fw.q (Fw.val_move rfl) rfl ?_
  refine Fw.gTQ (d := 39) rfl rfl ?_
  refine Fw.q (Fw.val_move rfl) rfl ?_
  refine Fw.gTQ (d := 39) rfl rfl ?_
  refine Fw.q (Fw.val_move rfl) rfl ?_
  refine Fw.gTQ (d := 39) rfl rfl ?_
  refine Fw.q (Fw.val_bin rfl rfl (Fw.b_add (Fw.i64_ok (by omega)))) rfl ?_
  have hc1 : 2 * i + 1 < l'.length := by omega
  have hc2 : 2 * i + 2 < l'.length := by omega
  refine Fw.gTQ (d := 39) rfl rfl ?_
  have HCa := Rg.own_cell HO _ hc2
  refine Fw.q (Fw.val_indexR Try.underlying134 sz2 rfl rfl rfl (show 2 * (i : Int) + 1 + 1 = ((2 * i + 2 : Nat) : Int) from by omega) (by omega) (by rw [Fw.add_flat, Nat.zero_add, Nat.mul_one])) rfl ?_
  refine Fw.gTQ (d := 39) rfl rfl ?_
  refine Fw.ldQ sc2 rfl (HCa) rfl ?_
  refine Fw.gTQ (d := 39) rfl rfl ?_
  refine Fw.q (Fw.val_move rfl) rfl ?_
  refine Fw.gTQ (d := 39) rfl rfl ?_
  refine Fw.q (Fw.val_move rfl) rfl ?_
  refine Fw.gTQ (d := 39) rfl rfl ?_
  have HCb := Rg.own_cell HO _ hc1
  refine Fw.q (Fw.val_indexR Try.underlying134 sz2 rfl rfl rfl (show 2 * (i : Int) + 1 = ((2 * i + 1 : Nat) : Int) from by omega) (by omega) (by rw [Fw.add_flat, Nat.zero_add, Nat.mul_one])) rfl ?_
  refine Fw.gTQ (d := 39) rfl rfl ?_
  refine Fw.ldQ sc2 rfl (HCb) rfl ?_
  refine Fw.gTQ (d := 39) rfl rfl ?_
  refine Fw.q2 (Fw.val_bin rfl rfl Fw.b_lss) rfl ?_ ?_
  rintro h49
  refine Fw.q (Fw.val_pickT rfl rfl) rfl ?_
  refine Fw.nilQ ?_
  intro w4 hb
  replace HQ := HQ.low hb
  replace HK := HK.trans (Fw.kf_low hb)
  replace HO := own_below HO hb (Nat.le_refl _)
  replace HCa := (hb.cell (World.block_lt_of_cell? _ _ HCa)).trans HCa
  replace HCb := (hb.cell (World.block_lt_of_cell? _ _ HCb)).trans HCb
  replace HC := HC.trans (Chg.of_below hb (fun k => k = gq ∨ k = rb)) (fun _ _ h => h)
  clear hb
  refine hK20 _ _ ?_
  refine Fw.condT rfl ?_
  refine Fw.region ?_
  refine Fw.s (Fw.val_move rfl) rfl ?_
  refine Fw.s (Fw.val_bin rfl rfl (Fw.b_add (Fw.i64_ok (by omega)))) rfl ?_
  refine Fw.s (Fw.val_assign rfl) rfl ?_
  refine Fw.nil ?_
  refine hK19 _ _ (Fw.FC.sub (f' := [(8, _), (49, _), (48, _), (47, _), (46, _), (45, _), (44, _), (43, _), (42, _), (41, _), (40, _), (7, _), (4, _), (5, _), (0, _)]) (.cons rfl (.cons rfl (.cons rfl (.cons rfl (.cons rfl (.cons rfl (.cons rfl (.cons rfl (.cons rfl (.cons rfl (.cons rfl (.cons rfl (.cons rfl (.cons rfl (.cons rfl .nil))))))))))))))) ?_)
  refine Fw.seq fun _ hK25 => ?_
  refine Fw.seq fun _ hK26 => ?_
  obtain ⟨j, hje, hj⟩ : ∃ j : Nat, 2 * (i : Int) + 1 + 1 = (j : Int) ∧ j < l'.length := ⟨2 * i + 2, by omega, by omega⟩
  have hi2 : i < l'.length := by omega
  rw [hje]
  refine Fw.regionQ (by kernel_rfl) (by kernel_rfl) ?_
  refine Fw.q (Fw.val_move rfl) rfl ?_
  refine Fw.q (Fw.val_move rfl) rfl ?_
  have HCa := Rg.own_cell HO _ hi2
  refine Fw.q (Fw.val_indexR Try.underlying134 sz2 rfl rfl rfl rfl (by omega) (by rw [Fw.add_flat, Nat.zero_add, Nat.mul_one])) rfl ?_
  refine Fw.ldQ sc2 rfl (HCa) rfl ?_
  refine Fw.q (Fw.val_move rfl) rfl ?_
  refine Fw.q (Fw.val_move rfl) rfl ?_
  have HCb := Rg.own_cell HO _ hj
  refine Fw.q (Fw.val_indexR Try.underlying134 sz2 rfl rfl rfl rfl (by omega) (by rw [Fw.add_flat, Nat.zero_add, Nat.mul_one])) rfl ?_
  refine Fw.ldQ sc2 rfl (HCb) rfl ?_
  refine Fw.q2 (Fw.val_bin rfl rfl Fw.b_leq) rfl ?_ ?_
  rintro h61
  refine Fw.nilQ ?_
  intro w5 hb
  replace HQ := HQ.low hb
  replace HK := HK.trans (Fw.kf_low hb)
  replace HO := own_below HO hb (Nat.le_refl _)
  replace HCa := (hb.cell (World.block_lt_of_cell? _ _ HCa)).trans HCa
  replace HCb := (hb.cell (World.block_lt_of_cell? _ _ HCb)).trans HCb
  replace HC := HC.trans (Chg.of_below hb (fun k => k = gq ∨ k = rb)) (fun _ _ h => h)
  clear hb
  refine hK26 _ _ (Fw.FC.sub (f' := [(61, _), (8, _), (49, _), (48, _), (47, _), (46, _), (45, _), (44, _), (43, _), (42, _), (41, _), (40, _), (7, _), (4, _), (5, _), (0, _)]) (.cons rfl (.cons rfl (.cons rfl (.cons rfl (.cons rfl (.cons rfl (.cons rfl (.cons rfl (.cons rfl (.cons rfl (.cons rfl (.cons rfl (.cons rfl (.cons rfl (.cons rfl (.cons rfl .nil)))))))))))))))) ?_)
  refine Fw.condT rfl ?_
  refine Fw.exit ?_
  refine Fw.X_exit ?_
  refine Fw.X_blockO rfl ?_
  refine Fw.X_exit ?_
  refine Fw.X_block ?_
  refine hK10 _ _ (Fw.FC.sub (f' := [(4, _), (5, _), (0, _)]) (.cons rfl (.cons rfl (.cons rfl .nil))) ?_)
  refine Fw.seq fun _ hK30 => ?_
  refine Fw.region ?_
  refine Fw.s (Fw.val_move rfl) rfl ?_
  refine Fw.s (Fw.val_move rfl) rfl ?_
  refine Fw.s (Fw.val_nil rfl) rfl ?_
  refine Fw.store sz134 rfl rfl HQ rfl rfl rfl ?_
  intro w6 N_ hc
  clear HCa
  clear HCb
  replace HK := HK.trans (Fw.kf_chg hc HQ)
  replace HO := own_to HO hc (fun g_ h_ e_ => by injection h_ with h_; have h_ : gr = g_ := h_; omega)
  replace HC := HC.trans hc (fun k hk_ e => by show k = gq ∨ k = rb; omega)
  clear hc
  clear HQ
  have HQ := N_
  clear N_
  refine Fw.nil ?_
  refine hK30 _ _ ?_
  refine Fw.seq fun _ hK31 => ?_
  refine Fw.region ?_
  refine Fw.s (Fw.val_move rfl) rfl ?_
  refine Fw.s (Fw.val_bin rfl rfl (Sp.quoN hx0.1 hx0.2)) rfl ?_
  refine Fw.s (Fw.val_move rfl) rfl ?_
  refine Fw.s (Fw.val_bin rfl rfl (Sp.remN hx0.1)) rfl ?_
  refine Fw.s (Fw.val_assign rfl) rfl ?_
  refine Fw.s (Fw.val_assign rfl) rfl ?_
  refine Fw.nil ?_
  refine hK31 _ _ (Fw.FC.sub (f' := [(3, _), (2, _)]) (.cons rfl (.cons rfl .nil)) ?_)
  refine Fw.ret ?_
  refine Fw.ret_ [.tmp 2, .tmp 3] [_, _] Try.results71 (.tmp rfl (.tmp rfl .nil)) ?_
  exact ⟨l[0], l', gr, rfl, ⟨hm, by omega⟩, ⟨some ⟨gr, 0, none⟩, c, by rw [hll]; exact HQ, by rw [hll]; exact HO, rfl⟩, .inl hrb.symm, HC, HK⟩
  rintro h61
  refine Fw.nilQ ?_
  intro w7 hb
  replace HQ := HQ.low hb
  replace HK := HK.trans (Fw.kf_low hb)
  replace HO := own_below HO hb (Nat.le_refl _)
  replace HCa := (hb.cell (World.block_lt_of_cell? _ _ HCa)).trans HCa
  replace HCb := (hb.cell (World.block_lt_of_cell? _ _ HCb)).trans HCb
  replace HC := HC.trans (Chg.of_below hb (fun k => k = gq ∨ k = rb)) (fun _ _ h => h)
  clear hb
  refine hK26 _ _ (Fw.FC.sub (f' := [(61, _), (8, _), (49, _), (48, _), (47, _), (46, _), (45, _), (44, _), (43, _), (42, _), (41, _), (40, _), (7, _), (4, _), (5, _), (0, _)]) (.cons rfl (.cons rfl (.cons rfl (.cons rfl (.cons rfl (.cons rfl (.cons rfl (.cons rfl (.cons rfl (.cons rfl (.cons rfl (.cons rfl (.cons rfl (.cons rfl (.cons rfl (.cons rfl .nil)))))))))))))))) ?_)
  refine Fw.condF rfl ?_
  refine Fw.skip ?_
  refine hK25 _ _ ?_
  refine Fw.seq fun _ hK32 => ?_
  refine Fw.regionHS (Chg (· = gr) w7) (by kernel_rfl) (Chg.of_below (Fw.drew_low w7) _) ?_
  have R_HQ := HQ
  have R_HCa := HCa
  have R_HCb := HCb
  intro w8 hb HS
  replace HQ := HQ.low hb
  replace HK := HK.trans (Fw.kf_low hb)
  replace HO := own_below HO hb (Nat.le_refl _)
  replace HCa := (hb.cell (World.block_lt_of_cell? _ _ HCa)).trans HCa
  replace HCb := (hb.cell (World.block_lt_of_cell? _ _ HCb)).trans HCb
  replace HC := HC.trans (Chg.of_below hb (fun k => k = gq ∨ k = rb)) (fun _ _ h => h)
  clear hb
  refine Fw.hTk 0 rfl rfl (Fw.yV (Fw.val_move rfl)) rfl ?_
  refine Fw.hTk 1 rfl rfl (Fw.yV (Fw.val_move rfl)) rfl ?_
  refine Fw.hTk 2 rfl rfl (Fw.yV (Fw.val_move rfl)) rfl ?_
  refine Fw.hTk 3 rfl rfl (Fw.yV (Fw.val_move rfl)) rfl ?_
  refine Fw.hTk 4 rfl rfl (Fw.yV (Fw.val_move rfl)) rfl ?_
  refine Fw.hTk 5 rfl rfl (Fw.yV (Fw.val_move rfl)) rfl ?_
  have HCb := Rg.own_cell HO _ hj
  refine Fw.hTk 6 rfl rfl (Fw.yV (Fw.val_indexR Try.underlying134 sz2 rfl rfl rfl rfl (by omega) (by rw [Fw.add_flat, Nat.zero_add, Nat.mul_one]))) rfl ?_
  refine Fw.hTk 8 rfl rfl (Fw.yV (Fw.val_move rfl)) rfl ?_
  refine Fw.hTk 9 rfl rfl (Fw.yV (Fw.val_move rfl)) rfl ?_
  have HCa := Rg.own_cell HO _ hi2
  refine Fw.hTk 10 rfl rfl (Fw.yV (Fw.val_indexR Try.underlying134 sz2 rfl rfl rfl rfl (by omega) (by rw [Fw.add_flat, Nat.zero_add, Nat.mul_one]))) rfl ?_
  refine Fw.hAll2 7 11 (by kernel_rfl) ?_ ?_
  refine Fw.hOp 7 rfl ?_
  refine Fw.ld sc2 rfl (HCb) rfl ?_
  refine Fw.hNext HS ?_
  refine Fw.hAll1 11 (by kernel_rfl) ?_
  refine Fw.hOp 11 rfl ?_
  refine Fw.ld sc2 rfl (HCa) rfl ?_
  refine Fw.hNext HS ?_
  have EW35 := True.intro
  refine Fw.hTk 12 rfl rfl (Fw.yV (Fw.val_indexR Try.underlying134 sz2 rfl rfl rfl rfl (by omega) (by rw [Fw.add_flat, Nat.zero_add, Nat.mul_one]))) rfl ?_
  refine Fw.hAll1 13 (by kernel_rfl) ?_
  refine Fw.hOp 13 rfl ?_
  refine Fw.storeR sz2 rfl rfl HO (by simpa using hi2) rfl rfl ?_
  intro w9 N_ hc
  replace HQ := HQ.chg hc (by omega)
  replace HK := HK.trans (Fw.kf_row hc HO)
  replace HS := HS.trans hc (fun _ _ h => h)
  replace HC := HC.trans hc (fun k hk_ e => by show k = gq ∨ k = rb; omega)
  clear hc
  clear HO EW35
  have HO := N_
  clear N_
  replace HO : World.ownsRow w9 (gq + 1) 2 1 (.slice (some ⟨gr, 0, none⟩) (l.length - 1) c) (l.length - 1) ((l'.set i l'[j]).map (.int .i64)) := by simpa using HO
  refine Fw.hNext HS ?_
  have EW37 := True.intro
  refine Fw.hTk 14 rfl rfl (Fw.yV (Fw.val_indexR Try.underlying134 sz2 rfl rfl rfl rfl (by omega) (by rw [Fw.add_flat, Nat.zero_add, Nat.mul_one]))) rfl ?_
  refine Fw.hAll1 15 (by kernel_rfl) ?_
  refine Fw.hOp 15 rfl ?_
  refine Fw.storeR sz2 rfl rfl HO (by simpa using hj) rfl rfl ?_
  intro w10 N_ hc
  replace HQ := HQ.chg hc (by omega)
  replace HK := HK.trans (Fw.kf_row hc HO)
  replace HS := HS.trans hc (fun _ _ h => h)
  replace HC := HC.trans hc (fun k hk_ e => by show k = gq ∨ k = rb; omega)
  clear hc
  clear HO EW37
  have HO := N_
  clear N_
  replace HO : World.ownsRow w10 (gq + 1) 2 1 (.slice (some ⟨gr, 0, none⟩) (l.length - 1) c) (l.length - 1) (((l'.set i l'[j]).set j l'[i]).map (.int .i64)) := by simpa using HO
  refine Fw.hNext HS ?_
  refine Fw.hDone (by kernel_rfl) ?_
  refine hK32 _ _ (Fw.FC.sub (f' := [(8, _), (49, _), (48, _), (47, _), (46, _), (45, _), (44, _), (43, _), (42, _), (41, _), (40, _), (4, _), (5, _), (0, _)]) (.cons rfl (.cons rfl (.cons rfl (.cons rfl (.cons rfl (.cons rfl (.cons rfl (.cons rfl (.cons rfl (.cons rfl (.cons rfl (.cons rfl (.cons rfl (.cons rfl .nil)))))))))))))) ?_)
  refine Fw.region ?_
  refine Fw.s (Fw.val_move rfl) rfl ?_
  refine Fw.s (Fw.val_assign rfl) rfl ?_
  refine Fw.nil ?_
  refine Fw.X_blockN ?_
  refine Fw.roundEnd _ _ (by omega) ⟨j, (l'.set i l'[j]).set j l'[i], rfl, by simpa using hll, by omega, fun y => (hm y).trans (or_congr Iff.rfl (Sp.mem_swap hi2 hj y).symm), HQ, HK, HO, HC, rfl⟩ (.cons rfl (.cons rfl (.cons rfl (.cons rfl .nil))))
  refine Fw.hOp 11 rfl ?_
  refine Fw.ld sc2 rfl (HCa) rfl ?_
  refine Fw.hNext HS ?_
  refine Fw.hAll1 7 (by kernel_rfl) ?_
  refine Fw.hOp 7 rfl ?_
  refine Fw.ld sc2 rfl (HCb) rfl ?_
  refine Fw.hNext HS ?_
  have EW39 := True.intro
  refine Fw.hTk 12 rfl rfl (Fw.yV (Fw.val_indexR Try.underlying134 sz2 rfl rfl rfl rfl (by omega) (by rw [Fw.add_flat, Nat.zero_add, Nat.mul_one]))) rfl ?_
  refine Fw.hAll1 13 (by kernel_rfl) ?_
  refine Fw.hOp 13 rfl ?_
  refine Fw.storeR sz2 rfl rfl HO (by simpa using hi2) rfl rfl ?_
  intro w11 N_ hc
  replace HQ := HQ.chg hc (by omega)
  replace HK := HK.trans (Fw.kf_row hc HO)
  replace HS := HS.trans hc (fun _ _ h => h)
  replace HC := HC.trans hc (fun k hk_ e => by show k = gq ∨ k = rb; omega)
  clear hc
  clear HO EW39
  have HO := N_
  clear N_
  replace HO : World.ownsRow w11 (gq + 1) 2 1 (.slice (some ⟨gr, 0, none⟩) (l.length - 1) c) (l.length - 1) ((l'.set i l'[j]).map (.int .i64)) := by simpa using HO
  refine Fw.hNext HS ?_
  have EW41 := True.intro
  refine Fw.hTk 14 rfl rfl (Fw.yV (Fw.val_indexR Try.underlying134 sz2 rfl rfl rfl rfl (by omega) (by rw [Fw.add_flat, Nat.zero_add, Nat.mul_one]))) rfl ?_
  refine Fw.hAll1 15 (by kernel_rfl) ?_
  refine Fw.hOp 15 rfl ?_
  refine Fw.storeR sz2 rfl rfl HO (by simpa using hj) rfl rfl ?_
  intro w12 N_ hc
  replace HQ := HQ.chg hc (by omega)
  replace HK := HK.trans (Fw.kf_row hc HO)
  replace HS := HS.trans hc (fun _ _ h => h)
  replace HC := HC.trans hc (fun k hk_ e => by show k = gq ∨ k = rb; omega)
  clear hc
  clear HO EW41
  have HO := N_
  clear N_
  replace HO : World.ownsRow w12 (gq + 1) 2 1 (.slice (some ⟨gr, 0, none⟩) (l.length - 1) c) (l.length - 1) (((l'.set i l'[j]).set j l'[i]).map (.int .i64)) := by simpa using HO
  refine Fw.hNext HS ?_
  refine Fw.hDone (by kernel_rfl) ?_
  refine hK32 _ _ (Fw.FC.sub (f' := [(8, _), (49, _), (48, _), (47, _), (46, _), (45, _), (44, _), (43, _), (42, _), (41, _), (40, _), (4, _), (5, _), (0, _)]) (.cons rfl (.cons rfl (.cons rfl (.cons rfl (.cons rfl (.cons rfl (.cons rfl (.cons rfl (.cons rfl (.cons rfl (.cons rfl (.cons rfl (.cons rfl (.cons rfl .nil)))))))))))))) ?_)
  refine Fw.region ?_
  refine Fw.s (Fw.val_move rfl) rfl ?_
  refine Fw.s (Fw.val_assign rfl) rfl ?_
  refine Fw.nil ?_
  refine Fw.X_blockN ?_
  refine Fw.roundEnd _ _ (by omega) ⟨j, (l'.set i l'[j]).set j l'[i], rfl, by simpa using hll, by omega, fun y => (hm y).trans (or_congr Iff.rfl (Sp.mem_swap hi2 hj y).symm), HQ, HK, HO, HC, rfl⟩ (.cons rfl (.cons rfl (.cons rfl (.cons rfl .nil))))
  rintro h49
  refine Fw.q (Fw.val_pickT rfl rfl) rfl ?_
  refine Fw.nilQ ?_
  intro w13 hb
  replace HQ := HQ.low hb
  replace HK := HK.trans (Fw.kf_low hb)
  replace HO := own_below HO hb (Nat.le_refl _)
  replace HCa := (hb.cell (World.block_lt_of_cell? _ _ HCa)).trans HCa
  replace HCb := (hb.cell (World.block_lt_of_cell? _ _ HCb)).trans HCb
  replace HC := HC.trans (Chg.of_below hb (fun k => k = gq ∨ k = rb)) (fun _ _ h => h)
  clear hb
  refine hK20 _ _ ?_
  refine Fw.condF rfl ?_
  refine Fw.skip ?_
  refine hK19 _ _ (Fw.FC.sub (f' := [(49, _), (48, _), (47, _), (46, _), (45, _), (44, _), (43, _), (42, _), (41, _), (40, _), (8, _), (7, _), (4, _), (5, _), (0, _)]) (.cons rfl (.cons rfl (.cons rfl (.cons rfl (.cons rfl (.cons rfl (.cons rfl (.cons rfl (.cons rfl (.cons rfl (.cons rfl (.cons rfl (.cons rfl (.cons rfl (.cons rfl .nil))))))))))))))) ?_)
  refine Fw.seq fun _ hK43 => ?_
  refine Fw.seq fun _ hK44 => ?_
  obtain ⟨j, hje, hj⟩ : ∃ j : Nat, 2 * (i : Int) + 1 = (j : Int) ∧ j < l'.length := ⟨2 * i + 1, by omega, by omega⟩
  have hi2 : i < l'.length := by omega
  rw [hje]
  refine Fw.regionQ (by kernel_rfl) (by kernel_rfl) ?_
  refine Fw.q (Fw.val_move rfl) rfl ?_
  refine Fw.q (Fw.val_move rfl) rfl ?_
  have HCa := Rg.own_cell HO _ hi2
  refine Fw.q (Fw.val_indexR Try.underlying134 sz2 rfl rfl rfl rfl (by omega) (by rw [Fw.add_flat, Nat.zero_add, Nat.mul_one])) rfl ?_
  refine Fw.ldQ sc2 rfl (HCa) rfl ?_
  refine Fw.q (Fw.val_move rfl) rfl ?_
  refine Fw.q (Fw.val_move rfl) rfl ?_
  have HCb := Rg.own_cell HO _ hj
  refine Fw.q (Fw.val_indexR Try.underlying134 sz2 rfl rfl rfl rfl (by omega) (by rw [Fw.add_flat, Nat.zero_add, Nat.mul_one])) rfl ?_
  refine Fw.ldQ sc2 rfl (HCb) rfl ?_
  refine Fw.q2 (Fw.val_bin rfl rfl Fw.b_leq) rfl ?_ ?_
  rintro h61
  refine Fw.nilQ ?_
  intro w14 hb
  replace HQ := HQ.low hb
  replace HK := HK.trans (Fw.kf_low hb)
  replace HO := own_below HO hb (Nat.le_refl _)
  replace HCa := (hb.cell (World.block_lt_of_cell? _ _ HCa)).trans HCa
  replace HCb := (hb.cell (World.block_lt_of_cell? _ _ HCb)).trans HCb
  replace HC := HC.trans (Chg.of_below hb (fun k => k = gq ∨ k = rb)) (fun _ _ h => h)
  clear hb
  refine hK44 _ _ (Fw.FC.sub (f' := [(61, _), (49, _), (48, _), (47, _), (46, _), (45, _), (44, _), (43, _), (42, _), (41, _), (40, _), (8, _), (7, _), (4, _), (5, _), (0, _)]) (.cons rfl (.cons rfl (.cons rfl (.cons rfl (.cons rfl (.cons rfl (.cons rfl (.cons rfl (.cons rfl (.cons rfl (.cons rfl (.cons rfl (.cons rfl (.cons rfl (.cons rfl (.cons rfl .nil)))))))))))))))) ?_)
  refine Fw.condT rfl ?_
  refine Fw.exit ?_
  refine Fw.X_exit ?_
  refine Fw.X_blockO rfl ?_
  refine Fw.X_exit ?_
  refine Fw.X_block ?_
  refine hK10 _ _ (Fw.FC.sub (f' := [(4, _), (5, _), (0, _)]) (.cons rfl (.cons rfl (.cons rfl .nil))) ?_)
  refine Fw.seq fun _ hK48 => ?_
  refine Fw.region ?_
  refine Fw.s (Fw.val_move rfl) rfl ?_
  refine Fw.s (Fw.val_move rfl) rfl ?_
  refine Fw.s (Fw.val_nil rfl) rfl ?_
  refine Fw.store sz134 rfl rfl HQ rfl rfl rfl ?_
  intro w15 N_ hc
  clear HCa
  clear HCb
  replace HK := HK.trans (Fw.kf_chg hc HQ)
  replace HO := own_to HO hc (fun g_ h_ e_ => by injection h_ with h_; have h_ : gr = g_ := h_; omega)
  replace HC := HC.trans hc (fun k hk_ e => by show k = gq ∨ k = rb; omega)
  clear hc
  clear HQ
  have HQ := N_
  clear N_
  refine Fw.nil ?_
  refine hK48 _ _ ?_
  refine Fw.seq fun _ hK49 => ?_
  refine Fw.region ?_
  refine Fw.s (Fw.val_move rfl) rfl ?_
  refine Fw.s (Fw.val_bin rfl rfl (Sp.quoN hx0.1 hx0.2)) rfl ?_
  refine Fw.s (Fw.val_move rfl) rfl ?_
  refine Fw.s (Fw.val_bin rfl rfl (Sp.remN hx0.1)) rfl ?_
  refine Fw.s (Fw.val_assign rfl) rfl ?_
  refine Fw.s (Fw.val_assign rfl) rfl ?_
  refine Fw.nil ?_
  refine hK49 _ _ (Fw.FC.sub (f' := [(3, _), (2, _)]) (.cons rfl (.cons rfl .nil)) ?_)
  refine Fw.ret ?_
  refine Fw.ret_ [.tmp 2, .tmp 3] [_, _] Try.results71 (.tmp rfl (.tmp rfl .nil)) ?_
  exact ⟨l[0], l', gr, rfl, ⟨hm, by omega⟩, ⟨some ⟨gr, 0, none⟩, c, by rw [hll]; exact HQ, by rw [hll]; exact HO, rfl⟩, .inl hrb.symm, HC, HK⟩
  rintro h61
  refine Fw.nilQ ?_
  intro w16 hb
  replace HQ := HQ.low hb
  replace HK := HK.trans (Fw.kf_low hb)
  replace HO := own_below HO hb (Nat.le_refl _)
  replace HCa := (hb.cell (World.block_lt_of_cell? _ _ HCa)).trans HCa
  replace HCb := (hb.cell (World.block_lt_of_cell? _ _ HCb)).trans HCb
  replace HC := HC.trans (Chg.of_below hb (fun k => k = gq ∨ k = rb)) (fun _ _ h => h)
  clear hb
  refine hK44 _ _ (Fw.FC.sub (f' := [(61, _), (49, _), (48, _), (47, _), (46, _), (45, _), (44, _), (43, _), (42, _), (41, _), (40, _), (8, _), (7, _), (4, _), (5, _), (0, _)]) (.cons rfl (.cons rfl (.cons rfl (.cons rfl (.cons rfl (.cons rfl (.cons rfl (.cons rfl (.cons rfl (.cons rfl (.cons rfl (.cons rfl (.cons rfl (.cons rfl (.cons rfl (.cons rfl .nil)))))))))))))))) ?_)
  refine Fw.condF rfl ?_
  refine Fw.skip ?_
  refine hK43 _ _ ?_
  refine Fw.seq fun _ hK50 => ?_
  refine Fw.regionHS (Chg (· = gr) w16) (by kernel_rfl) (Chg.of_below (Fw.drew_low w16) _) ?_
  have R_HQ := HQ
  have R_HCa := HCa
  have R_HCb := HCb
  intro w17 hb HS
  replace HQ := HQ.low hb
  replace HK := HK.trans (Fw.kf_low hb)
  replace HO := own_below HO hb (Nat.le_refl _)
  replace HCa := (hb.cell (World.block_lt_of_cell? _ _ HCa)).trans HCa
  replace HCb := (hb.cell (World.block_lt_of_cell? _ _ HCb)).trans HCb
  replace HC := HC.trans (Chg.of_below hb (fun k => k = gq ∨ k = rb)) (fun _ _ h => h)
  clear hb
  refine Fw.hTk 0 rfl rfl (Fw.yV (Fw.val_move rfl)) rfl ?_
  refine Fw.hTk 1 rfl rfl (Fw.yV (Fw.val_move rfl)) rfl ?_
  refine Fw.hTk 2 rfl rfl (Fw.yV (Fw.val_move rfl)) rfl ?_
  refine Fw.hTk 3 rfl rfl (Fw.yV (Fw.val_move rfl)) rfl ?_
  refine Fw.hTk 4 rfl rfl (Fw.yV (Fw.val_move rfl)) rfl ?_
  refine Fw.hTk 5 rfl rfl (Fw.yV (Fw.val_move rfl)) rfl ?_
  have HCb := Rg.own_cell HO _ hj
  refine Fw.hTk 6 rfl rfl (Fw.yV (Fw.val_indexR Try.underlying134 sz2 rfl rfl rfl rfl (by omega) (by rw [Fw.add_flat, Nat.zero_add, Nat.mul_one]))) rfl ?_
  refine Fw.hTk 8 rfl rfl (Fw.yV (Fw.val_move rfl)) rfl ?_
  refine Fw.hTk 9 rfl rfl (Fw.yV (Fw.val_move rfl)) rfl ?_
  have HCa := Rg.own_cell HO _ hi2
  refine Fw.hTk 10 rfl rfl (Fw.yV (Fw.val_indexR Try.underlying134 sz2 rfl rfl rfl rfl (by omega) (by rw [Fw.add_flat, Nat.zero_add, Nat.mul_one]))) rfl ?_
  refine Fw.hAll2 7 11 (by kernel_rfl) ?_ ?_
  refine Fw.hOp 7 rfl ?_
  refine Fw.ld sc2 rfl (HCb) rfl ?_
  refine Fw.hNext HS ?_
  refine Fw.hAll1 11 (by kernel_rfl) ?_
  refine Fw.hOp 11 rfl ?_
  refine Fw.ld sc2 rfl (HCa) rfl ?_
  refine Fw.hNext HS ?_
  have EW53 := True.intro
  refine Fw.hTk 12 rfl rfl (Fw.yV (Fw.val_indexR Try.underlying134 sz2 rfl rfl rfl rfl (by omega) (by rw [Fw.add_flat, Nat.zero_add, Nat.mul_one]))) rfl ?_
  refine Fw.hAll1 13 (by kernel_rfl) ?_
  refine Fw.hOp 13 rfl ?_
  refine Fw.storeR sz2 rfl rfl HO (by simpa using hi2) rfl rfl ?_
  intro w18 N_ hc
  replace HQ := HQ.chg hc (by omega)
  replace HK := HK.trans (Fw.kf_row hc HO)
  replace HS := HS.trans hc (fun _ _ h => h)
  replace HC := HC.trans hc (fun k hk_ e => by show k = gq ∨ k = rb; omega)
  clear hc
  clear HO EW53
  have HO := N_
  clear N_
  replace HO : World.ownsRow w18 (gq + 1) 2 1 (.slice (some ⟨gr, 0, none⟩) (l.length - 1) c) (l.length - 1) ((l'.set i l'[j]).map (.int .i64)) := by simpa using HO
  refine Fw.hNext HS ?_
  have EW55 := True.intro
  refine Fw.hTk 14 rfl rfl (Fw.yV (Fw.val_indexR Try.underlying134 sz2 rfl rfl rfl rfl (by omega) (by rw [Fw.add_flat, Nat.zero_add, Nat.mul_one]))) rfl ?_
  refine Fw.hAll1 15 (by kernel_rfl) ?_
  refine Fw.hOp 15 rfl ?_
  refine Fw.storeR sz2 rfl rfl HO (by simpa using hj) rfl rfl ?_
  intro w19 N_ hc
  replace HQ := HQ.chg hc (by omega)
  replace HK := HK.trans (Fw.kf_row hc HO)
  replace HS := HS.trans hc (fun _ _ h => h)
  replace HC := HC.trans hc (fun k hk_ e => by show k = gq ∨ k = rb; omega)
  clear hc
  clear HO EW55
  have HO := N_
  clear N_
  replace HO : World.ownsRow w19 (gq + 1) 2 1 (.slice (some ⟨gr, 0, none⟩) (l.length - 1) c) (l.length - 1) (((l'.set i l'[j]).set j l'[i]).map (.int .i64)) := by simpa using HO
  refine Fw.hNext HS ?_
  refine Fw.hDone (by kernel_rfl) ?_
  refine hK50 _ _ (Fw.FC.sub (f' := [(49, _), (48, _), (47, _), (46, _), (45, _), (44, _), (43, _), (42, _), (41, _), (40, _), (8, _), (4, _), (5, _), (0, _)]) (.cons rfl (.cons rfl (.cons rfl (.cons rfl (.cons rfl (.cons rfl (.cons rfl (.cons rfl (.cons rfl (.cons rfl (.cons rfl (.cons rfl (.cons rfl (.cons rfl .nil)))))))))))))) ?_)
  refine Fw.region ?_
  refine Fw.s (Fw.val_move rfl) rfl ?_
  refine Fw.s (Fw.val_assign rfl) rfl ?_
  refine Fw.nil ?_
  refine Fw.X_blockN ?_
  refine Fw.roundEnd _ _ (by omega) ⟨j, (l'.set i l'[j]).set j l'[i], rfl, by simpa using hll, by omega, fun y => (hm y).trans (or_congr Iff.rfl (Sp.mem_swap hi2 hj y).symm), HQ, HK, HO, HC, rfl⟩ (.cons rfl (.cons rfl (.cons rfl (.cons rfl .nil))))
  refine Fw.hOp 11 rfl ?_
  refine Fw.ld sc2 rfl (HCa) rfl ?_
  refine Fw.hNext HS ?_
  refine Fw.hAll1 7 (by kernel_rfl) ?_
  refine Fw.hOp 7 rfl ?_
  refine Fw.ld sc2 rfl (HCb) rfl ?_
  refine Fw.hNext HS ?_
  have EW57 := True.intro
  refine Fw.hTk 12 rfl rfl (Fw.yV (Fw.val_indexR Try.underlying134 sz2 rfl rfl rfl rfl (by omega) (by rw [Fw.add_flat, Nat.zero_add, Nat.mul_one]))) rfl ?_
  refine Fw.hAll1 13 (by kernel_rfl) ?_
  refine Fw.hOp 13 rfl ?_
  refine Fw.storeR sz2 rfl rfl HO (by simpa using hi2) rfl rfl ?_
  intro w20 N_ hc
  replace HQ := HQ.chg hc (by omega)
  replace HK := HK.trans (Fw.kf_row hc HO)
  replace HS := HS.trans hc (fun _ _ h => h)
  replace HC := HC.trans hc (fun k hk_ e => by show k = gq ∨ k = rb; omega)
  clear hc
  clear HO EW57
  have HO := N_
  clear N_
  replace HO : World.ownsRow w20 (gq + 1) 2 1 (.slice (some ⟨gr, 0, none⟩) (l.length - 1) c) (l.length - 1) ((l'.set i l'[j]).map (.int .i64)) := by simpa using HO
  refine Fw.hNext HS ?_
  have EW59 := True.intro
  refine Fw.hTk 14 rfl rfl (Fw.yV (Fw.val_indexR Try.underlying134 sz2 rfl rfl rfl rfl (by omega) (by rw [Fw.add_flat, Nat.zero_add, Nat.mul_one]))) rfl ?_
  refine Fw.hAll1 15 (by kernel_rfl) ?_
  refine Fw.hOp 15 rfl ?_
  refine Fw.storeR sz2 rfl rfl HO (by simpa using hj) rfl rfl ?_
  intro w21 N_ hc
  replace HQ := HQ.chg hc (by omega)
  replace HK := HK.trans (Fw.kf_row hc HO)
  replace HS := HS.trans hc (fun _ _ h => h)
  replace HC := HC.trans hc (fun k hk_ e => by show k = gq ∨ k = rb; omega)
  clear hc
  clear HO EW59
  have HO := N_
  clear N_
  replace HO : World.ownsRow w21 (gq + 1) 2 1 (.slice (some ⟨gr, 0, none⟩) (l.length - 1) c) (l.length - 1) (((l'.set i l'[j]).set j l'[i]).map (.int .i64)) := by simpa using HO
  refine Fw.hNext HS ?_
  refine Fw.hDone (by kernel_rfl) ?_
  refine hK50 _ _ (Fw.FC.sub (f' := [(49, _), (48, _), (47, _), (46, _), (45, _), (44, _), (43, _), (42, _), (41, _), (40, _), (8, _), (4, _), (5, _), (0, _)]) (.cons rfl (.cons rfl (.cons rfl (.cons rfl (.cons rfl (.cons rfl (.cons rfl (.cons rfl (.cons rfl (.cons rfl (.cons rfl (.cons rfl (.cons rfl (.cons rfl .nil)))))))))))))) ?_)
  refine Fw.region ?_
  refine Fw.s (Fw.val_move rfl) rfl ?_
  refine Fw.s (Fw.val_assign rfl) rfl ?_
  refine Fw.nil ?_
  refine Fw.X_blockN ?_
  refine Fw.roundEnd _ _ (by omega) ⟨j, (l'.set i l'[j]).set j l'[i], rfl, by simpa using hll, by omega, fun y => (hm y).trans (or_congr Iff.rfl (Sp.mem_swap hi2 hj y).symm), HQ, HK, HO, HC, rfl⟩ (.cons rfl (.cons rfl (.cons rfl (.cons rfl .nil))))
  rintro h38
  refine Fw.q (Fw.val_move rfl) rfl ?_
  refine Fw.gFQ (d := 39) rfl rfl rfl rfl ?_
  refine Fw.gFQ (d := 39) rfl rfl rfl rfl ?_
  refine Fw.gFQ (d := 39) rfl rfl rfl rfl ?_
  refine Fw.gFQ (d := 39) rfl rfl rfl rfl ?_
  refine Fw.gFQ (d := 39) rfl rfl rfl rfl ?_
  refine Fw.gFQ (d := 39) rfl rfl rfl rfl ?_
  refine Fw.gFQ (d := 39) rfl rfl rfl rfl ?_
  refine Fw.gFQ (d := 39) rfl rfl rfl rfl ?_
  refine Fw.gFQ (d := 39) rfl rfl rfl rfl ?_
  refine Fw.gFQ (d := 39) rfl rfl rfl rfl ?_
  refine Fw.q (Fw.val_pickF rfl rfl) rfl ?_
  refine Fw.nilQ ?_
  intro w22 hb
  replace HQ := HQ.low hb
  replace HK := HK.trans (Fw.kf_low hb)
  replace HO := own_below HO hb (Nat.le_refl _)
  replace HC := HC.trans (Chg.of_below hb (fun k => k = gq ∨ k = rb)) (fun _ _ h => h)
  clear hb
  refine hK20 _ _ ?_
  refine Fw.condF rfl ?_
  refine Fw.skip ?_
  refine hK19 _ _ (Fw.FC.sub (f' := [(49, _), (48, _), (47, _), (46, _), (45, _), (44, _), (43, _), (42, _), (41, _), (40, _), (8, _), (7, _), (4, _), (5, _), (0, _)]) (.cons rfl (.cons rfl (.cons rfl (.cons rfl (.cons rfl (.cons rfl (.cons rfl (.cons rfl (.cons rfl (.cons rfl (.cons rfl (.cons rfl (.cons rfl (.cons rfl (.cons rfl .nil))))))))))))))) ?_)
  refine Fw.seq fun _ hK61 => ?_
  refine Fw.seq fun _ hK62 => ?_
  obtain ⟨j, hje, hj⟩ : ∃ j : Nat, 2 * (i : Int) + 1 = (j : Int) ∧ j < l'.length := ⟨2 * i + 1, by omega, by omega⟩
  have hi2 : i < l'.length := by omega
  rw [hje]
  refine Fw.regionQ (by kernel_rfl) (by kernel_rfl) ?_
  refine Fw.q (Fw.val_move rfl) rfl ?_
  refine Fw.q (Fw.val_move rfl) rfl ?_
  have HCa := Rg.own_cell HO _ hi2
  refine Fw.q (Fw.val_indexR Try.underlying134 sz2 rfl rfl rfl rfl (by omega) (by rw [Fw.add_flat, Nat.zero_add, Nat.mul_one])) rfl ?_
  refine Fw.ldQ sc2 rfl (HCa) rfl ?_
  refine Fw.q (Fw.val_move rfl) rfl ?_
  refine Fw.q (Fw.val_move rfl) rfl ?_
  have HCb := Rg.own_cell HO _ hj
  refine Fw.q (Fw.val_indexR Try.underlying134 sz2 rfl rfl rfl rfl (by omega) (by rw [Fw.add_flat, Nat.zero_add, Nat.mul_one])) rfl ?_
  refine Fw.ldQ sc2 rfl (HCb) rfl ?_
  refine Fw.q2 (Fw.val_bin rfl rfl Fw.b_leq) rfl ?_ ?_
  rintro h61
  refine Fw.nilQ ?_
  intro w23 hb
  clear HCa
  clear HCb
  replace HQ := HQ.low hb
  replace HK := HK.trans (Fw.kf_low hb)
  replace HO := own_below HO hb (Nat.le_refl _)
  replace HC := HC.trans (Chg.of_below hb (fun k => k = gq ∨ k = rb)) (fun _ _ h => h)
  clear hb
  refine hK62 _ _ (Fw.FC.sub (f' := [(61, _), (49, _), (48, _), (47, _), (46, _), (45, _), (44, _), (43, _), (42, _), (41, _), (40, _), (8, _), (7, _), (4, _), (5, _), (0, _)]) (.cons rfl (.cons rfl (.cons rfl (.cons rfl (.cons rfl (.cons rfl (.cons rfl (.cons rfl (.cons rfl (.cons rfl (.cons rfl (.cons rfl (.cons rfl (.cons rfl (.cons rfl (.cons rfl .nil)))))))))))))))) ?_)
  refine Fw.condT rfl ?_
  refine Fw.exit ?_
  refine Fw.X_exit ?_
  refine Fw.X_blockO rfl ?_
  refine Fw.X_exit ?_
  refine Fw.X_block ?_
  refine hK10 _ _ (Fw.FC.sub (f' := [(4, _), (5, _), (0, _)]) (.cons rfl (.cons rfl (.cons rfl .nil))) ?_)
  refine Fw.seq fun _ hK66 => ?_
  refine Fw.region ?_
  refine Fw.s (Fw.val_move rfl) rfl ?_
  refine Fw.s (Fw.val_move rfl) rfl ?_
  refine Fw.s (Fw.val_nil rfl) rfl ?_
  refine Fw.store sz134 rfl rfl HQ rfl rfl rfl ?_
  intro w24 N_ hc
  replace HK := HK.trans (Fw.kf_chg hc HQ)
  replace HO := own_to HO hc (fun g_ h_ e_ => by injection h_ with h_; have h_ : gr = g_ := h_; omega)
  replace HC := HC.trans hc (fun k hk_ e => by show k = gq ∨ k = rb; omega)
  clear hc
  clear HQ
  have HQ := N_
  clear N_
  refine Fw.nil ?_
  refine hK66 _ _ ?_
  refine Fw.seq fun _ hK67 => ?_
  refine Fw.region ?_
  refine Fw.s (Fw.val_move rfl) rfl ?_
  refine Fw.s (Fw.val_bin rfl rfl (Sp.quoN hx0.1 hx0.2)) rfl ?_
  refine Fw.s (Fw.val_move rfl) rfl ?_
  refine Fw.s (Fw.val_bin rfl rfl (Sp.remN hx0.1)) rfl ?_
  refine Fw.s (Fw.val_assign rfl) rfl ?_
  refine Fw.s (Fw.val_assign rfl) rfl ?_
  refine Fw.nil ?_
  refine hK67 _ _ (Fw.FC.sub (f' := [(3, _), (2, _)]) (.cons rfl (.cons rfl .nil)) ?_)
  refine Fw.ret ?_
  refine Fw.ret_ [.tmp 2, .tmp 3] [_, _] Try.results71 (.tmp rfl (.tmp rfl .nil)) ?_
  exact ⟨l[0], l', gr, rfl, ⟨hm, by omega⟩, ⟨some ⟨gr, 0, none⟩, c, by rw [hll]; exact HQ, by rw [hll]; exact HO, rfl⟩, .inl hrb.symm, HC, HK⟩
  rintro h61
  refine Fw.nilQ ?_
  intro w25 hb
  clear HCa
  clear HCb
  replace HQ := HQ.low hb
  replace HK := HK.trans (Fw.kf_low hb)
  replace HO := own_below HO hb (Nat.le_refl _)
  replace HC := HC.trans (Chg.of_below hb (fun k => k = gq ∨ k = rb)) (fun _ _ h => h)
  clear hb
  refine hK62 _ _ (Fw.FC.sub (f' := [(61, _), (49, _), (48, _), (47, _), (46, _), (45, _), (44, _), (43, _), (42, _), (41, _), (40, _), (8, _), (7, _), (4, _), (5, _), (0, _)]) (.cons rfl (.cons rfl (.cons rfl (.cons rfl (.cons rfl (.cons rfl (.cons rfl (.cons rfl (.cons rfl (.cons rfl (.cons rfl (.cons rfl (.cons rfl (.cons rfl (.cons rfl (.cons rfl .nil)))))))))))))))) ?_)
  refine Fw.condF rfl ?_
  refine Fw.skip ?_
  refine hK61 _ _ ?_
  refine Fw.seq fun _ hK68 => ?_
  refine Fw.regionHS (Chg (· = gr) w25) (by kernel_rfl) (Chg.of_below (Fw.drew_low w25) _) ?_
  have R_HQ := HQ
  intro w26 hb HS
  replace HQ := HQ.low hb
  replace HK := HK.trans (Fw.kf_low hb)
  replace HO := own_below HO hb (Nat.le_refl _)
  replace HC := HC.trans (Chg.of_below hb (fun k => k = gq ∨ k = rb)) (fun _ _ h => h)
  clear hb
  refine Fw.hTk 0 rfl rfl (Fw.yV (Fw.val_move rfl)) rfl ?_
  refine Fw.hTk 1 rfl rfl (Fw.yV (Fw.val_move rfl)) rfl ?_
  refine Fw.hTk 2 rfl rfl (Fw.yV (Fw.val_move rfl)) rfl ?_
  refine Fw.hTk 3 rfl rfl (Fw.yV (Fw.val_move rfl)) rfl ?_
  refine Fw.hTk 4 rfl rfl (Fw.yV (Fw.val_move rfl)) rfl ?_
  refine Fw.hTk 5 rfl rfl (Fw.yV (Fw.val_move rfl)) rfl ?_
  have HCb := Rg.own_cell HO _ hj
  refine Fw.hTk 6 rfl rfl (Fw.yV (Fw.val_indexR Try.underlying134 sz2 rfl rfl rfl rfl (by omega) (by rw [Fw.add_flat, Nat.zero_add, Nat.mul_one]))) rfl ?_
  refine Fw.hTk 8 rfl rfl (Fw.yV (Fw.val_move rfl)) rfl ?_
  refine Fw.hTk 9 rfl rfl (Fw.yV (Fw.val_move rfl)) rfl ?_
  have HCa := Rg.own_cell HO _ hi2
  refine Fw.hTk 10 rfl rfl (Fw.yV (Fw.val_indexR Try.underlying134 sz2 rfl rfl rfl rfl (by omega) (by rw [Fw.add_flat, Nat.zero_add, Nat.mul_one]))) rfl ?_
  refine Fw.hAll2 7 11 (by kernel_rfl) ?_ ?_
  refine Fw.hOp 7 rfl ?_
  refine Fw.ld sc2 rfl (HCb) rfl ?_
  refine Fw.hNext HS ?_
  refine Fw.hAll1 11 (by kernel_rfl) ?_
  refine Fw.hOp 11 rfl ?_
  refine Fw.ld sc2 rfl (HCa) rfl ?_
  refine Fw.hNext HS ?_
  have EW71 := True.intro
  refine Fw.hTk 12 rfl rfl (Fw.yV (Fw.val_indexR Try.underlying134 sz2 rfl rfl rfl rfl (by omega) (by rw [Fw.add_flat, Nat.zero_add, Nat.mul_one]))) rfl ?_
  refine Fw.hAll1 13 (by kernel_rfl) ?_
  refine Fw.hOp 13 rfl ?_
  refine Fw.storeR sz2 rfl rfl HO (by simpa using hi2) rfl rfl ?_
  intro w27 N_ hc
  replace HQ := HQ.chg hc (by omega)
  replace HK := HK.trans (Fw.kf_row hc HO)
  replace HS := HS.trans hc (fun _ _ h => h)
  replace HC := HC.trans hc (fun k hk_ e => by show k = gq ∨ k = rb; omega)
  clear hc
  clear HO EW71
  have HO := N_
  clear N_
  replace HO : World.ownsRow w27 (gq + 1) 2 1 (.slice (some ⟨gr, 0, none⟩) (l.length - 1) c) (l.length - 1) ((l'.set i l'[j]).map (.int .i64)) := by simpa using HO
  refine Fw.hNext HS ?_
  have EW73 := True.intro
  refine Fw.hTk 14 rfl rfl (Fw.yV (Fw.val_indexR Try.underlying134 sz2 rfl rfl rfl rfl (by omega) (by rw [Fw.add_flat, Nat.zero_add, Nat.mul_one]))) rfl ?_
  refine Fw.hAll1 15 (by kernel_rfl) ?_
  refine Fw.hOp 15 rfl ?_
  refine Fw.storeR sz2 rfl rfl HO (by simpa using hj) rfl rfl ?_
  intro w28 N_ hc
  replace HQ := HQ.chg hc (by omega)
  replace HK := HK.trans (Fw.kf_row hc HO)
  replace HS := HS.trans hc (fun _ _ h => h)
  replace HC := HC.trans hc (fun k hk_ e => by show k = gq ∨ k = rb; omega)
  clear hc
  clear HO EW73
  have HO := N_
  clear N_
  replace HO : World.ownsRow w28 (gq + 1) 2 1 (.slice (some ⟨gr, 0, none⟩) (l.length - 1) c) (l.length - 1) (((l'.set i l'[j]).set j l'[i]).map (.int .i64)) := by simpa using HO
  refine Fw.hNext HS ?_
  refine Fw.hDone (by kernel_rfl) ?_
  refine hK68 _ _ (Fw.FC.sub (f' := [(49, _), (48, _), (47, _), (46, _), (45, _), (44, _), (43, _), (42, _), (41, _), (40, _), (8, _), (4, _), (5, _), (0, _)]) (.cons rfl (.cons rfl (.cons rfl (.cons rfl (.cons rfl (.cons rfl (.cons rfl (.cons rfl (.cons rfl (.cons rfl (.cons rfl (.cons rfl (.cons rfl (.cons rfl .nil)))))))))))))) ?_)
  refine Fw.region ?_
  refine Fw.s (Fw.val_move rfl) rfl ?_
  refine Fw.s (Fw.val_assign rfl) rfl ?_
  refine Fw.nil ?_
  refine Fw.X_blockN ?_
  refine Fw.roundEnd _ _ (by omega) ⟨j, (l'.set i l'[j]).set j l'[i], rfl, by simpa using hll, by omega, fun y => (hm y).trans (or_congr Iff.rfl (Sp.mem_swap hi2 hj y).symm), HQ, HK, HO, HC, rfl⟩ (.cons rfl (.cons rfl (.cons rfl (.cons rfl .nil))))
  refine Fw.hOp 11 rfl ?_
  refine Fw.ld sc2 rfl (HCa) rfl ?_
  refine Fw.hNext HS ?_
  refine Fw.hAll1 7 (by kernel_rfl) ?_
  refine Fw.hOp 7 rfl ?_
  refine Fw.ld sc2 rfl (HCb) rfl ?_
  refine Fw.hNext HS ?_
  have EW75 := True.intro
  refine Fw.hTk 12 rfl rfl (Fw.yV (Fw.val_indexR Try.underlying134 sz2 rfl rfl rfl rfl (by omega) (by rw [Fw.add_flat, Nat.zero_add, Nat.mul_one]))) rfl ?_
  refine Fw.hAll1 13 (by kernel_rfl) ?_
  refine Fw.hOp 13 rfl ?_
  refine Fw.storeR sz2 rfl rfl HO (by simpa using hi2) rfl rfl ?_
  intro w29 N_ hc
  replace HQ := HQ.chg hc (by omega)
  replace HK := HK.trans (Fw.kf_row hc HO)
  replace HS := HS.trans hc (fun _ _ h => h)
  replace HC := HC.trans hc (fun k hk_ e => by show k = gq ∨ k = rb; omega)
  clear hc
  clear HO EW75
  have HO := N_
  clear N_
  replace HO : World.ownsRow w29 (gq + 1) 2 1 (.slice (some ⟨gr, 0, none⟩) (l.length - 1) c) (l.length - 1) ((l'.set i l'[j]).map (.int .i64)) := by simpa using HO
  refine Fw.hNext HS ?_
  have EW77 := True.intro
  refine Fw.hTk 14 rfl rfl (Fw.yV (Fw.val_indexR Try.underlying134 sz2 rfl rfl rfl rfl (by omega) (by rw [Fw.add_flat, Nat.zero_add, Nat.mul_one]))) rfl ?_
  refine Fw.hAll1 15 (by kernel_rfl) ?_
  refine Fw.hOp 15 rfl ?_
  refine Fw.storeR sz2 rfl rfl HO (by simpa using hj) rfl rfl ?_
  intro w30 N_ hc
  replace HQ := HQ.chg hc (by omega)
  replace HK := HK.trans (Fw.kf_row hc HO)
  replace HS := HS.trans hc (fun _ _ h => h)
  replace HC := HC.trans hc (fun k hk_ e => by show k = gq ∨ k = rb; omega)
  clear hc
  clear HO EW77
  have HO := N_
  clear N_
  replace HO : World.ownsRow w30 (gq + 1) 2 1 (.slice (some ⟨gr, 0, none⟩) (l.length - 1) c) (l.length - 1) (((l'.set i l'[j]).set j l'[i]).map (.int .i64)) := by simpa using HO
  refine Fw.hNext HS ?_
  refine Fw.hDone (by kernel_rfl) ?_
  refine hK68 _ _ (Fw.FC.sub (f' := [(49, _), (48, _), (47, _), (46, _), (45, _), (44, _), (43, _), (42, _), (41, _), (40, _), (8, _), (4, _), (5, _), (0, _)]) (.cons rfl (.cons rfl (.cons rfl (.cons rfl (.cons rfl (.cons rfl (.cons rfl (.cons rfl (.cons rfl (.cons rfl (.cons rfl (.cons rfl (.cons rfl (.cons rfl .nil)))))))))))))) ?_)
  refine Fw.region ?_
  refine Fw.s (Fw.val_move rfl) rfl ?_
  refine Fw.s (Fw.val_assign rfl) rfl ?_
  refine Fw.nil ?_
  refine Fw.X_blockN ?_
  refine Fw.roundEnd _ _ (by omega) ⟨j, (l'.set i l'[j]).set j l'[i], rfl, by simpa using hll, by omega, fun y => (hm y).trans (or_congr Iff.rfl (Sp.mem_swap hi2 hj y).symm), HQ, HK, HO, HC, rfl⟩ (.cons rfl (.cons rfl (.cons rfl (.cons rfl .nil))))

end Go.Proofs.Ytodhpooddmeghaa
