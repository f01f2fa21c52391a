/- Layer 9: the laws To, Minimal. -/
import Derived.Test.YtenljoccfjlncaaRgM
import Derived.Test.YtenljoccfjlncaaRgP
namespace Go.Proofs.Ytenljoccfjlncaa
set_option linter.unusedSimpArgs false
set_option linter.unusedVariables false
open Go.RowKit

namespace Rg
def Re.swap (e : Re) : Re := ⟨e.t, e.f, e.m⟩
theorem swapR_step {E : List Re} {k : Nat} (h : k < E.length) : ((E.take k).map Re.swap).flatMap Re.cells ++ Re.cells (Re.swap E[k]) = ((E.take (k + 1)).map Re.swap).flatMap Re.cells := by
  rw [List.take_succ_eq_append_getElem h, List.map_append, List.flatMap_append]; simp
theorem right_swap {N : Int} {R : List Re} (h : Right N (R.map Re.swap)) : Right N R := ⟨h.1, by have := h.2.1; rwa [List.length_map] at this, fun e he => by
  have := h.2.2 e.swap (List.mem_map_of_mem he)
  exact ⟨this.2.1, this.1, this.2.2⟩⟩
end Rg
theorem intsN_any (w : World) (A : Option Addr) (l : List Nat) (c : Nat) (h : Rd w A (Rg.ints l)) (hl : l.length ≤ 65536) : Calls Try.prog 17 #[.slice A l.length c] w fun e_ w' => ∃ A' c', e_ = .returned (.slice A' l.length c') ∧ w'.ownsRow w.heap.size 3 1 (.slice A' l.length c') l.length (Rg.ints l) ∧ Below w.heap.size w w' := by
  have := ints_any w A (Rg.zs l) c (by rw [← Rg.ints_zs]; exact h) (by rw [Rg.zs_len]; exact hl)
  rw [Rg.zs_len, ← Rg.ints_zs] at this; exact this
theorem pathTimeN_any (w : World) (g : Nat) (N : Nat) (E : List Rg.Ed) (hG : Rg.GAt w g N E) (hEl : E.length ≤ 65536) (A : Option Addr) (ts : List Int) (c : Nat) (h : Rd w A (ts.map (.int .i64))) (Aw : Option Addr) (way : List Nat) (cw : Nat) (hwl : way.length ≤ 65536) (hw : Rd w Aw (Rg.ints way)) (a b : Int) : Calls Try.prog 21 #[.pointer (some ⟨g, 0, none⟩), .slice A ts.length c, .slice Aw way.length cw, .int .i64 a, .int .i64 b] w fun e_ w' => e_ = .returned (.tuple #[.int .i64 (Rg.ptime N E ts (Rg.zs way) a b).1, .int .i64 (Rg.ptime N E ts (Rg.zs way) a b).2]) ∧ Below w.heap.size w w' := by
  have := pathTime_any w g N E hG hEl A ts c h Aw (Rg.zs way) cw (by rw [Rg.zs_len]; exact hwl) (by rw [← Rg.ints_zs]; exact hw) a b
  rw [Rg.zs_len] at this; exact this
set_option maxRecDepth 100000 in
set_option maxHeartbeats 1000000 in
theorem backR_any (w : World) (N : Int) (E : List Rg.Re) (Ae : Option Addr) (ce : Nat) (hE : Rd w Ae (E.flatMap Rg.Re.cells)) (hEl : E.length ≤ 5864062014805) : Calls Try.prog 24 #[.agg #[.int .i64 N, .slice Ae E.length ce]] w fun e_ w' => ∃ A' c', e_ = .returned (.agg #[.int .i64 N, .slice A' E.length c']) ∧ w'.ownsRow w.heap.size 63 3 (.slice A' E.length c') E.length ((E.map Rg.Re.swap).flatMap Rg.Re.cells) ∧ Below w.heap.size w w' := by
  refine Fw.calls Try.func24 rfl Try.ntmps24 rfl ?_
  have HB := Below.refl (w.heap.size) w
  refine Fw.seq fun _ hK1 => ?_
  refine Fw.region ?_
  refine Fw.box rfl rfl ?_
  intro w1 gn egn Hn hb
  have lgn : w.heap.size ≤ gn := by have := HB.size; omega
  replace HB := HB.trans (hb.mono HB.size)
  clear hb
  clear egn
  refine Fw.alloc ze24 rfl ?_
  intro w2 gr egr Hr hb
  have n_gn_gr : gn < gr := by have := Hn.lt; omega
  have lgr : w.heap.size ≤ gr := by have := HB.size; omega
  replace Hn := Hn.low hb
  replace HB := HB.trans (hb.mono HB.size)
  clear hb
  clear egr
  refine Fw.nil ?_
  refine hK1 _ _ ?_
  refine Fw.seq fun _ hK2 => ?_
  refine Fw.region ?_
  refine Fw.s (Fw.val_fieldAddr fl24_0 rfl rfl) rfl ?_
  refine Fw.ld sc3 rfl (Hn.cell 0) rfl ?_
  refine Fw.s (Fw.val_build (ps := [(0, _)]) rfl (bu24_0 _)) rfl ?_
  refine Fw.alloc ze24 rfl ?_
  intro w3 go ego Ho hb
  have n_gn_go : gn < go := by have := Hn.lt; omega
  have n_gr_go : gr < go := by have := Hr.lt; omega
  have lgo : w.heap.size ≤ go := by have := HB.size; omega
  replace Hn := Hn.low hb
  replace Hr := Hr.low hb
  replace HB := HB.trans (hb.mono HB.size)
  clear hb
  clear ego
  refine Fw.storeW sz24 rfl rfl Ho rfl rfl (by exact Fw.oneCells rfl) ?_
  intro w4 N_ hc
  replace Hn := Hn.chg hc (by omega)
  replace Hr := Hr.chg hc (by omega)
  replace HB := HB.trans (hc.below (B := w.heap.size) (fun k e => by omega) HB.size)
  clear hc
  clear Ho
  have Ho := N_
  clear N_
  refine Fw.nil ?_
  refine hK2 _ _ ?_
  refine Fw.seq fun _ hK3 => ?_
  refine Fw.seq fun _ hK4 => ?_
  refine Fw.region ?_
  refine Fw.s (Fw.val_assign rfl) rfl ?_
  refine Fw.nil ?_
  refine hK4 _ _ ?_
  refine Fw.block ?_
  have HN : w4.ownsRow w.heap.size 63 3 (.slice none 0 0) 0 (((E.take 0).map Rg.Re.swap).flatMap Rg.Re.cells) := ⟨rfl, .inl ⟨rfl, rfl⟩⟩
  refine Fw.loop (fun m_ f_ W_ => ∃ (k : Nat) (A_ : Option Addr) (c_ : Nat), m_ = E.length - k ∧ k ≤ E.length ∧ Blk W_ gn 24 #[.int .i64 N, .slice Ae E.length ce] ∧ Blk W_ gr 24 #[.int .i64 0, .slice none 0 0] ∧ Blk W_ go 24 #[.int .i64 N, .slice A_ k c_] ∧ World.ownsRow W_ w.heap.size 63 3 (.slice A_ k c_) k (((E.take k).map Rg.Re.swap).flatMap Rg.Re.cells) ∧ Below (w.heap.size) w W_ ∧ f_ = [(4, .int .i64 k), (3, .pointer (some ⟨go, 0, none⟩)), (2, .pointer (some ⟨gr, 0, none⟩)), (1, .pointer (some ⟨gn, 0, none⟩))]) ⟨_, _, ⟨0, none, 0, rfl, Nat.zero_le _, Hn, Hr, Ho, HN, HB, rfl⟩, (.cons rfl (.cons rfl (.cons rfl (.cons rfl .nil))))⟩ ?_
  clear Hn Hr Ho HN HB
  rintro m5_ _ w5 ⟨k, A_, c_, hm5_, hkl, Hn, Hr, Ho, HN, HB, rfl⟩
  refine Fw.seq fun _ hK6 => ?_
  refine Fw.seq fun _ hK7 => ?_
  refine Fw.region ?_
  refine Fw.s (Fw.val_move rfl) rfl ?_
  refine Fw.s (Fw.val_fieldAddr fl24_1 rfl rfl) rfl ?_
  refine Fw.ld sc22 rfl (Hn.cell 1) rfl ?_
  refine Fw.s (Fw.val_len Try.underlying22 rfl) rfl ?_
  refine Fw.s2 (Fw.val_bin rfl rfl Fw.b_lss) rfl ?_ ?_
  · rintro hlt
    refine Fw.nil ?_
    refine hK7 _ _ ?_
    refine Fw.condT rfl ?_
    refine Fw.skip ?_
    refine hK6 _ _ ?_
    refine Fw.seq fun _ hK9 => ?_
    refine Fw.block ?_
    have hkl2 : k < E.length := by omega
    obtain ⟨ae, be_, oe_, hAe, hadde, HEe⟩ := Fw.rdAt Rg.Re.len (by decide) hE k hkl2
    have hBr : w.heap.size ≤ w5.heap.size := HB.size
    refine Fw.regionHS (fun W_ => Below (w.heap.size) w5 W_ ∧ Blk W_ gn 24 #[.int .i64 N, .slice Ae E.length ce]) (by kernel_rfl) ⟨(Fw.drew_low w5).mono hBr, Hn.low (Fw.drew_low w5)⟩ ?_
    have R_Hn := Hn
    have R_Hr := Hr
    have R_Ho := Ho
    have R_HB := HB
    intro w6 hb HS
    replace HS := HS.1
    replace Hn := Hn.low hb
    replace Hr := Hr.low hb
    replace Ho := Ho.low hb
    replace HN := own_below HN hb (Nat.le_refl _)
    replace HB := HB.trans (hb.mono HB.size)
    clear hb
    refine Fw.hTake 0 rfl rfl (by kernel_rfl) (by kernel_rfl) (by kernel_rfl) (Fw.yV (Fw.val_fieldAddr fl24_1 rfl rfl)) rfl ?_
    refine Fw.hTake 2 rfl rfl (by kernel_rfl) (by kernel_rfl) (by kernel_rfl) (Fw.yV (Fw.val_fieldAddr fl24_1 rfl rfl)) rfl ?_
    refine Fw.hTake 3 rfl rfl (by kernel_rfl) (by kernel_rfl) (by kernel_rfl) (Fw.yV (Fw.val_load sc22 rfl (fun _ h_ => h_.2.cell 1))) rfl ?_
    refine Fw.hTake 4 rfl rfl (by kernel_rfl) (by kernel_rfl) (by kernel_rfl) (Fw.yV (Fw.val_move rfl)) rfl ?_
    refine Fw.hTake 5 rfl rfl (by kernel_rfl) (by kernel_rfl) (by kernel_rfl) (Fw.yV (Fw.val_indexR Try.underlying22 sz63 rfl hAe rfl rfl hkl2 hadde)) rfl ?_
    refine Fw.hTake 6 rfl rfl (by kernel_rfl) (by kernel_rfl) (by kernel_rfl) (Fw.yV (Fw.val_fieldAddr fl63_1 rfl rfl)) rfl ?_
    refine Fw.hTake 7 rfl rfl (by kernel_rfl) (by kernel_rfl) (by kernel_rfl) (Fw.yV (Fw.val_load sc3 rfl (fun _ h_ => Fw.rdCell (HEe.low (R_HB.trans h_.1)) 1 rfl))) rfl ?_
    refine Fw.hTake 8 rfl rfl (by kernel_rfl) (by kernel_rfl) (by kernel_rfl) (Fw.yV (Fw.val_fieldAddr fl24_1 rfl rfl)) rfl ?_
    refine Fw.hTake 9 rfl rfl (by kernel_rfl) (by kernel_rfl) (by kernel_rfl) (Fw.yV (Fw.val_load sc22 rfl (fun _ h_ => h_.2.cell 1))) rfl ?_
    refine Fw.hTake 10 rfl rfl (by kernel_rfl) (by kernel_rfl) (by kernel_rfl) (Fw.yV (Fw.val_move rfl)) rfl ?_
    refine Fw.hTake 11 rfl rfl (by kernel_rfl) (by kernel_rfl) (by kernel_rfl) (Fw.yV (Fw.val_indexR Try.underlying22 sz63 rfl hAe rfl rfl hkl2 hadde)) rfl ?_
    refine Fw.hTake 12 rfl rfl (by kernel_rfl) (by kernel_rfl) (by kernel_rfl) (Fw.yV (Fw.val_fieldAddr fl63_0 rfl rfl)) rfl ?_
    refine Fw.hTake 13 rfl rfl (by kernel_rfl) (by kernel_rfl) (by kernel_rfl) (Fw.yV (Fw.val_load sc3 rfl (fun _ h_ => Fw.rdCell (HEe.low (R_HB.trans h_.1)) 0 rfl))) rfl ?_
    refine Fw.hTake 14 rfl rfl (by kernel_rfl) (by kernel_rfl) (by kernel_rfl) (Fw.yV (Fw.val_fieldAddr fl24_1 rfl rfl)) rfl ?_
    refine Fw.hTake 15 rfl rfl (by kernel_rfl) (by kernel_rfl) (by kernel_rfl) (Fw.yV (Fw.val_load sc22 rfl (fun _ h_ => h_.2.cell 1))) rfl ?_
    refine Fw.hTake 16 rfl rfl (by kernel_rfl) (by kernel_rfl) (by kernel_rfl) (Fw.yV (Fw.val_move rfl)) rfl ?_
    refine Fw.hTake 17 rfl rfl (by kernel_rfl) (by kernel_rfl) (by kernel_rfl) (Fw.yV (Fw.val_indexR Try.underlying22 sz63 rfl hAe rfl rfl hkl2 hadde)) rfl ?_
    refine Fw.hTake 18 rfl rfl (by kernel_rfl) (by kernel_rfl) (by kernel_rfl) (Fw.yV (Fw.val_fieldAddr fl63_2 rfl rfl)) rfl ?_
    refine Fw.hTake 19 rfl rfl (by kernel_rfl) (by kernel_rfl) (by kernel_rfl) (Fw.yV (Fw.val_load sc2 rfl (fun _ h_ => Fw.rdCell (HEe.low (R_HB.trans h_.1)) 2 rfl))) rfl ?_
    refine Fw.hTake 20 rfl rfl (by kernel_rfl) (by kernel_rfl) (by kernel_rfl) (Fw.yV (Fw.val_build (ps := [(0, _), (1, _), (2, _)]) rfl (bu63_0_1_2 _ _ _))) rfl ?_
    refine Fw.hAll2 1 21 (by kernel_rfl) ?_ ?_
    · skip
      refine Fw.hOp 1 rfl ?_
      refine Fw.ld sc22 rfl (Ho.cell 1) rfl ?_
      refine Fw.hNext ⟨HS, Hn⟩ ?_
      refine Fw.hAll1 21 (by kernel_rfl) ?_
      refine Fw.hOp 21 rfl ?_
      refine Fw.buildSlice [_] sl22 rfl rfl (by exact Fw.allSz rfl) (by decide) rfl ?_
      intro w7 gS36 egS36 HS36 hb
      have rgS36 : w5.heap.size ≤ gS36 := by have := HS.size; omega
      have n_gn_gS36 : gn < gS36 := by have := Hn.lt; omega
      have n_gr_gS36 : gr < gS36 := by have := Hr.lt; omega
      have n_go_gS36 : go < gS36 := by have := Ho.lt; omega
      have lgS36 : w.heap.size ≤ gS36 := by have := HB.size; omega
      replace Hn := Hn.low hb
      replace Hr := Hr.low hb
      replace Ho := Ho.low hb
      replace HN := own_below HN hb (Nat.le_refl _)
      replace HS := HS.trans (hb.mono (Nat.le_trans hBr HS.size))
      replace HB := HB.trans (hb.mono HB.size)
      clear hb
      clear egS36
      refine Fw.hNext ⟨HS, Hn⟩ ?_
      refine Fw.hAll1 22 (by kernel_rfl) ?_
      refine Fw.hOp 22 rfl ?_
      refine Fw.append (k + 1) (((E.take (k + 1)).map Rg.Re.swap).flatMap Rg.Re.cells) sl22 rfl rfl HN (show Rd _ _ (Rg.Re.cells (Rg.Re.swap E[k])) from Fw.rdBlk HS36) rfl (Fw.oneCellsL rfl) (by unfold maxLen; omega) HB.size rfl (Rg.swapR_step hkl2) rfl ?_
      intro A37 c37 w8 N_ hbb hc hrow
      replace HS := HS.trans hbb
      replace HB := HB.trans hbb
      replace Hn := Hn.chg hc (fun e => own_ne_blk HN Hn (by decide) e.symm)
      replace Hr := Hr.chg hc (fun e => own_ne_blk HN Hr (by decide) e.symm)
      replace Ho := Ho.chg hc (fun e => own_ne_blk HN Ho (by decide) e.symm)
      clear hbb hc hrow HN HS36
      have HN := N_
      clear N_
      refine Fw.hNext ⟨HS, Hn⟩ ?_
      refine Fw.hTake 23 rfl rfl (by kernel_rfl) (by kernel_rfl) (by kernel_rfl) (Fw.yV (Fw.val_fieldAddr fl24_1 rfl rfl)) rfl ?_
      refine Fw.hAll1 24 (by kernel_rfl) ?_
      refine Fw.hOp 24 rfl ?_
      refine Fw.store sz22 rfl rfl Ho rfl rfl rfl ?_
      intro w9 N_ hc
      replace Hn := Hn.chg hc (by omega)
      replace Hr := Hr.chg hc (by omega)
      replace HN := own_to HN hc (fun g_ h_ e_ => own_ne HN Ho (by decide) (by rw [h_, e_]))
      replace HS := HS.trans (hc.below (fun k e => by omega) (Nat.le_trans hBr HS.size))
      replace HB := HB.trans (hc.below (B := w.heap.size) (fun k e => by omega) HB.size)
      clear hc
      clear Ho
      have Ho := N_
      clear N_
      refine Fw.hNext ⟨HS, Hn⟩ ?_
      refine Fw.hDone (by kernel_rfl) ?_
      refine Fw.X_blockN ?_
      refine hK9 _ _ (Fw.FC.sub (f' := [(4, _), (3, _), (2, _), (1, _)]) (.cons rfl (.cons rfl (.cons rfl (.cons rfl .nil)))) ?_)
      refine Fw.region ?_
      refine Fw.s (Fw.val_move rfl) rfl ?_
      refine Fw.s (Fw.val_bin rfl rfl (Fw.b_add (Fw.i64_ok (by omega)))) rfl ?_
      refine Fw.s (Fw.val_assign rfl) rfl ?_
      refine Fw.nil ?_
      refine Fw.roundEnd _ _ (by omega) ⟨k + 1, A37, c37, rfl, by omega, Hn, Hr, Ho, HN, HB, rfl⟩ (.cons rfl (.cons rfl (.cons rfl (.cons rfl .nil))))
    · skip
      refine Fw.hOp 21 rfl ?_
      refine Fw.buildSlice [_] sl22 rfl rfl (by exact Fw.allSz rfl) (by decide) rfl ?_
      intro w10 gS36 egS36 HS36 hb
      have rgS36 : w5.heap.size ≤ gS36 := by have := HS.size; omega
      have n_gn_gS36 : gn < gS36 := by have := Hn.lt; omega
      have n_gr_gS36 : gr < gS36 := by have := Hr.lt; omega
      have n_go_gS36 : go < gS36 := by have := Ho.lt; omega
      have lgS36 : w.heap.size ≤ gS36 := by have := HB.size; omega
      replace Hn := Hn.low hb
      replace Hr := Hr.low hb
      replace Ho := Ho.low hb
      replace HN := own_below HN hb (Nat.le_refl _)
      replace HS := HS.trans (hb.mono (Nat.le_trans hBr HS.size))
      replace HB := HB.trans (hb.mono HB.size)
      clear hb
      clear egS36
      refine Fw.hNext ⟨HS, Hn⟩ ?_
      refine Fw.hAll1 1 (by kernel_rfl) ?_
      refine Fw.hOp 1 rfl ?_
      refine Fw.ld sc22 rfl (Ho.cell 1) rfl ?_
      refine Fw.hNext ⟨HS, Hn⟩ ?_
      refine Fw.hAll1 22 (by kernel_rfl) ?_
      refine Fw.hOp 22 rfl ?_
      refine Fw.append (k + 1) (((E.take (k + 1)).map Rg.Re.swap).flatMap Rg.Re.cells) sl22 rfl rfl HN (show Rd _ _ (Rg.Re.cells (Rg.Re.swap E[k])) from Fw.rdBlk HS36) rfl (Fw.oneCellsL rfl) (by unfold maxLen; omega) HB.size rfl (Rg.swapR_step hkl2) rfl ?_
      intro A37 c37 w11 N_ hbb hc hrow
      replace HS := HS.trans hbb
      replace HB := HB.trans hbb
      replace Hn := Hn.chg hc (fun e => own_ne_blk HN Hn (by decide) e.symm)
      replace Hr := Hr.chg hc (fun e => own_ne_blk HN Hr (by decide) e.symm)
      replace Ho := Ho.chg hc (fun e => own_ne_blk HN Ho (by decide) e.symm)
      clear hbb hc hrow HN HS36
      have HN := N_
      clear N_
      refine Fw.hNext ⟨HS, Hn⟩ ?_
      refine Fw.hTake 23 rfl rfl (by kernel_rfl) (by kernel_rfl) (by kernel_rfl) (Fw.yV (Fw.val_fieldAddr fl24_1 rfl rfl)) rfl ?_
      refine Fw.hAll1 24 (by kernel_rfl) ?_
      refine Fw.hOp 24 rfl ?_
      refine Fw.store sz22 rfl rfl Ho rfl rfl rfl ?_
      intro w12 N_ hc
      replace Hn := Hn.chg hc (by omega)
      replace Hr := Hr.chg hc (by omega)
      replace HN := own_to HN hc (fun g_ h_ e_ => own_ne HN Ho (by decide) (by rw [h_, e_]))
      replace HS := HS.trans (hc.below (fun k e => by omega) (Nat.le_trans hBr HS.size))
      replace HB := HB.trans (hc.below (B := w.heap.size) (fun k e => by omega) HB.size)
      clear hc
      clear Ho
      have Ho := N_
      clear N_
      refine Fw.hNext ⟨HS, Hn⟩ ?_
      refine Fw.hDone (by kernel_rfl) ?_
      refine Fw.X_blockN ?_
      refine hK9 _ _ (Fw.FC.sub (f' := [(4, _), (3, _), (2, _), (1, _)]) (.cons rfl (.cons rfl (.cons rfl (.cons rfl .nil)))) ?_)
      refine Fw.region ?_
      refine Fw.s (Fw.val_move rfl) rfl ?_
      refine Fw.s (Fw.val_bin rfl rfl (Fw.b_add (Fw.i64_ok (by omega)))) rfl ?_
      refine Fw.s (Fw.val_assign rfl) rfl ?_
      refine Fw.nil ?_
      refine Fw.roundEnd _ _ (by omega) ⟨k + 1, A37, c37, rfl, by omega, Hn, Hr, Ho, HN, HB, rfl⟩ (.cons rfl (.cons rfl (.cons rfl (.cons rfl .nil))))
  · rintro hlt
    refine Fw.nil ?_
    refine hK7 _ _ ?_
    refine Fw.condF rfl ?_
    refine Fw.exit ?_
    refine Fw.X_exit ?_
    refine Fw.X_exit ?_
    refine Fw.X_block ?_
    refine hK3 _ _ (Fw.FC.sub (f' := [(3, _), (2, _)]) (.cons rfl (.cons rfl .nil)) ?_)
    refine Fw.seq fun _ hK13 => ?_
    obtain rfl : k = E.length := by omega
    rw [List.take_length] at HN
    refine Fw.region ?_
    refine Fw.ldA ag24 rfl (Fw.rdBlk Ho) rfl rfl ?_
    refine Fw.storeW sz24 rfl rfl Hr rfl rfl (by exact Fw.oneCells rfl) ?_
    intro w13 N_ hc
    replace Hn := Hn.chg hc (by omega)
    replace Ho := Ho.chg hc (by omega)
    replace HN := own_to HN hc (fun g_ h_ e_ => own_ne HN Hr (by decide) (by rw [h_, e_]))
    replace HB := HB.trans (hc.below (B := w.heap.size) (fun k e => by omega) HB.size)
    clear hc
    clear Hr
    have Hr := N_
    clear N_
    replace Hr : Blk w13 gr 24 #[.int .i64 N, .slice A_ E.length c_] := Hr
    refine Fw.nil ?_
    refine hK13 _ _ ?_
    refine Fw.ret ?_
    refine Fw.ret_ [.cell 2 24] [_] Try.results24 (Fw.ResL.cellM rfl ag24 (Fw.rdBlk Hr) rfl .nil) ?_
    exact ⟨A_, c_, rfl, HN, HB⟩

set_option maxRecDepth 100000 in
set_option maxHeartbeats 1000000 in
theorem lto_no (w : World) (N : Int) (R : List Rg.Re) (Ae : Option Addr) (ce : Nat) (hR : Rd w Ae (R.flatMap Rg.Re.cells)) (hRl : R.length ≤ 5864062014805) (hno : ¬ Rg.Right N R) (A : Option Addr) (ts : List Int) (c : Nat) (h : Rd w A (ts.map (.int .i64))) (An : Option Addr) (ends : List Int) (cn : Nat) (hen : Rd w An (ends.map (.int .i64))) : Calls Try.prog 9 #[.agg #[.int .i64 N, .slice Ae R.length ce], .slice A ts.length c, .slice An ends.length cn] w fun e_ w' => e_ = .returned (.bool true) ∧ Below w.heap.size w w' := by
  refine Fw.calls Try.func9 rfl Try.ntmps9 rfl ?_
  have HB := Below.refl (w.heap.size) w
  refine Fw.seq fun _ hK1 => ?_
  refine Fw.region ?_
  refine Fw.box rfl rfl ?_
  intro w1 gn egn Hn hb
  have lgn : w.heap.size ≤ gn := by have := HB.size; omega
  replace HB := HB.trans (hb.mono HB.size)
  clear hb
  clear egn
  refine Fw.s (Fw.val_assign rfl) rfl ?_
  refine Fw.nil ?_
  refine hK1 _ _ ?_
  refine Fw.seq fun _ hK2 => ?_
  refine Fw.regionH (by kernel_rfl) ?_
  have R_Hn := Hn
  have R_HB := HB
  intro w2 hb
  have HS := hb
  replace Hn := Hn.low hb
  replace HB := HB.trans (hb.mono HB.size)
  clear hb
  refine Fw.hTake 0 rfl rfl (by kernel_rfl) (by kernel_rfl) (by kernel_rfl) (Fw.yV (Fw.hLdA ag24 rfl (Fw.rdBlk R_Hn) rfl)) rfl ?_
  refine Fw.hTake 2 rfl rfl (by kernel_rfl) (by kernel_rfl) (by kernel_rfl) (Fw.yV (Fw.hLdA ag24 rfl (Fw.rdBlk R_Hn) rfl)) rfl ?_
  refine Fw.hAll1 1 (by kernel_rfl) ?_
  refine Fw.hOp 1 rfl ?_
  refine Fw.call cf11 rfl rfl (netNo_any _ N R Ae ce (hR.low HB) hno) ?_
  rintro e_ w3 ⟨rfl, hb⟩
  refine ⟨_, rfl, ?_⟩
  replace Hn := Hn.low hb
  replace HS := HS.trans (hb.mono HS.size)
  replace HB := HB.trans (hb.mono HB.size)
  clear hb
  refine Fw.hNext HS ?_
  refine Fw.hAll1 3 (by kernel_rfl) ?_
  refine Fw.hOp 3 rfl ?_
  refine Fw.call cf24 rfl rfl (backR_any _ N R Ae ce (hR.low HB) hRl) ?_
  rintro e_ w4 ⟨A2, c2, rfl, HK, hb⟩
  refine ⟨_, rfl, ?_⟩
  replace Hn := Hn.low hb
  replace HS := HS.trans (hb.mono HS.size)
  replace HB := HB.trans (hb.mono HB.size)
  clear hb
  refine Fw.hNext HS ?_
  refine Fw.hAll1 4 (by kernel_rfl) ?_
  refine Fw.hOp 4 rfl ?_
  refine Fw.call cf11 rfl rfl ((show Calls _ _ #[.agg #[.int .i64 N, .slice A2 R.length c2]] _ _ from by have := netNo_any _ N (R.map Rg.Re.swap) A2 c2 (Rd.of_own HK) (fun h_ => hno (Rg.right_swap h_)); rw [List.length_map] at this; exact this)) ?_
  rintro e_ w5 ⟨rfl, hb⟩
  refine ⟨_, rfl, ?_⟩
  replace Hn := Hn.low hb
  replace HS := HS.trans (hb.mono HS.size)
  replace HK := own_below HK hb (Nat.le_refl _)
  replace HB := HB.trans (hb.mono HB.size)
  clear hb
  refine Fw.hNext HS ?_
  refine Fw.hTake 5 rfl rfl (by kernel_rfl) (by kernel_rfl) (by kernel_rfl) (Fw.yV (Fw.val_assign rfl)) rfl ?_
  refine Fw.hTake 6 rfl rfl (by kernel_rfl) (by kernel_rfl) (by kernel_rfl) (Fw.yV (Fw.val_assign rfl)) rfl ?_
  refine Fw.hDone (by kernel_rfl) ?_
  refine hK2 _ _ (Fw.FC.sub (f' := [(8, _), (7, _), (3, _), (1, _), (2, _)]) (.cons rfl (.cons rfl (.cons rfl (.cons rfl (.cons rfl .nil))))) ?_)
  refine Fw.seq fun _ hK3 => ?_
  refine Fw.seq fun _ hK4 => ?_
  refine Fw.region ?_
  refine Fw.call cf12 rfl rfl (lawake_any _) ?_
  rintro e_ w6 ⟨rfl, hb⟩
  refine ⟨_, rfl, ?_⟩
  replace Hn := Hn.low hb
  replace HK := own_below HK hb (Nat.le_refl _)
  replace HB := HB.trans (hb.mono HB.size)
  clear hb
  refine Fw.s (Fw.val_not rfl) rfl ?_
  refine Fw.s (Fw.val_move rfl) rfl ?_
  refine Fw.gT (d := 17) rfl rfl ?_
  refine Fw.s (Fw.val_move rfl) rfl ?_
  refine Fw.gT (d := 17) rfl rfl ?_
  refine Fw.s (Fw.val_bin rfl rfl (Fw.b_nilP Try.underlying27)) rfl ?_
  refine Fw.s (Fw.val_pickF rfl rfl) rfl ?_
  refine Fw.s (Fw.val_move rfl) rfl ?_
  refine Fw.gF (d := 21) rfl rfl rfl rfl ?_
  refine Fw.gF (d := 21) rfl rfl rfl rfl ?_
  refine Fw.s (Fw.val_pickT rfl rfl) rfl ?_
  refine Fw.s (Fw.val_move rfl) rfl ?_
  refine Fw.gF (d := 25) rfl rfl rfl rfl ?_
  refine Fw.gF (d := 25) rfl rfl rfl rfl ?_
  refine Fw.gF (d := 25) rfl rfl rfl rfl ?_
  refine Fw.gF (d := 25) rfl rfl rfl rfl ?_
  refine Fw.s (Fw.val_pickT rfl rfl) rfl ?_
  refine Fw.nil ?_
  refine hK4 _ _ (Fw.FC.sub (f' := [(30, _), (8, _), (7, _), (3, _), (1, _), (2, _)]) (.cons rfl (.cons rfl (.cons rfl (.cons rfl (.cons rfl (.cons rfl .nil)))))) ?_)
  refine Fw.condT rfl ?_
  refine Fw.seq fun _ hK5 => ?_
  refine Fw.region ?_
  refine Fw.call cf12 rfl rfl (lawake_any _) ?_
  rintro e_ w7 ⟨rfl, hb⟩
  refine ⟨_, rfl, ?_⟩
  replace Hn := Hn.low hb
  replace HK := own_below HK hb (Nat.le_refl _)
  replace HB := HB.trans (hb.mono HB.size)
  clear hb
  refine Fw.s (Fw.val_assign rfl) rfl ?_
  refine Fw.nil ?_
  refine hK5 _ _ (Fw.FC.sub (f' := [(6, _)]) (.cons rfl .nil) ?_)
  refine Fw.ret ?_
  refine Fw.X_ret ?_
  refine Fw.ret_ [.tmp 6] [_] Try.results9 (.tmp rfl .nil) ?_
  exact ⟨rfl, HB⟩

set_option maxRecDepth 100000 in
set_option maxHeartbeats 1000000 in
theorem lto_yes (w : World) (N : Nat) (E : List Rg.Ed) (Ae : Option Addr) (ce : Nat) (hE : Rd w Ae (E.flatMap Rg.Ed.cells)) (hn : Rg.Net N E) (A : Option Addr) (ts : List Int) (c : Nat) (h : Rd w A (ts.map (.int .i64))) (An : Option Addr) (ends : List Int) (cn : Nat) (hen : Rd w An (ends.map (.int .i64))) : Calls Try.prog 9 #[.agg #[.int .i64 (N : Int), .slice Ae E.length ce], .slice A ts.length c, .slice An ends.length cn] w fun e_ w' => e_ = .returned (.bool true) ∧ Below w.heap.size w w' := by
  have hn1 := hn.n
  have hn2 := hn.e
  refine Fw.calls Try.func9 rfl Try.ntmps9 rfl ?_
  have HB := Below.refl (w.heap.size) w
  refine Fw.seq fun _ hK1 => ?_
  refine Fw.region ?_
  refine Fw.box rfl rfl ?_
  intro w1 gn egn Hn hb
  have lgn : w.heap.size ≤ gn := by have := HB.size; omega
  replace HB := HB.trans (hb.mono HB.size)
  clear hb
  clear egn
  refine Fw.s (Fw.val_assign rfl) rfl ?_
  refine Fw.nil ?_
  refine hK1 _ _ ?_
  refine Fw.seq fun _ hK2 => ?_
  refine Fw.regionH (by kernel_rfl) ?_
  have R_Hn := Hn
  have R_HB := HB
  intro w2 hb
  have HS := hb
  replace Hn := Hn.low hb
  replace HB := HB.trans (hb.mono HB.size)
  clear hb
  refine Fw.hTake 0 rfl rfl (by kernel_rfl) (by kernel_rfl) (by kernel_rfl) (Fw.yV (Fw.hLdA ag24 rfl (Fw.rdBlk R_Hn) rfl)) rfl ?_
  refine Fw.hTake 2 rfl rfl (by kernel_rfl) (by kernel_rfl) (by kernel_rfl) (Fw.yV (Fw.hLdA ag24 rfl (Fw.rdBlk R_Hn) rfl)) rfl ?_
  refine Fw.hAll1 1 (by kernel_rfl) ?_
  refine Fw.hOp 1 rfl ?_
  refine Fw.call cf11 rfl rfl (net_any _ N E Ae ce (hE.low HB) hn) ?_
  rintro e_ w3 ⟨g, rfl, HG, hb⟩
  refine ⟨_, rfl, ?_⟩
  replace Hn := Hn.low hb
  replace HS := HS.trans (hb.mono HS.size)
  replace HB := HB.trans (hb.mono HB.size)
  clear hb
  refine Fw.hNext HS ?_
  refine Fw.hAll1 3 (by kernel_rfl) ?_
  refine Fw.hOp 3 rfl ?_
  refine Fw.call cf24 rfl rfl (back_any _ N E Ae ce (hE.low HB) (by omega)) ?_
  rintro e_ w4 ⟨A2, c2, rfl, HK, hb⟩
  refine ⟨_, rfl, ?_⟩
  replace Hn := Hn.low hb
  replace HS := HS.trans (hb.mono HS.size)
  replace HG := HG.low hb
  replace HB := HB.trans (hb.mono HB.size)
  clear hb
  refine Fw.hNext HS ?_
  refine Fw.hAll1 4 (by kernel_rfl) ?_
  refine Fw.hOp 4 rfl ?_
  refine Fw.call cf11 rfl rfl ((show Calls _ _ #[.agg #[.int .i64 (N : Int), .slice A2 E.length c2]] _ _ from by have := net_any _ N (E.map Rg.Ed.swap) A2 c2 (Rd.of_own HK) hn.swap; rw [List.length_map] at this; exact this)) ?_
  rintro e_ w5 ⟨g2, rfl, HG2, hb⟩
  refine ⟨_, rfl, ?_⟩
  replace Hn := Hn.low hb
  replace HS := HS.trans (hb.mono HS.size)
  replace HG := HG.low hb
  replace HK := own_below HK hb (Nat.le_refl _)
  replace HB := HB.trans (hb.mono HB.size)
  clear hb
  clear HK
  refine Fw.hNext HS ?_
  refine Fw.hTake 5 rfl rfl (by kernel_rfl) (by kernel_rfl) (by kernel_rfl) (Fw.yV (Fw.val_assign rfl)) rfl ?_
  refine Fw.hTake 6 rfl rfl (by kernel_rfl) (by kernel_rfl) (by kernel_rfl) (Fw.yV (Fw.val_assign rfl)) rfl ?_
  refine Fw.hDone (by kernel_rfl) ?_
  refine hK2 _ _ (Fw.FC.sub (f' := [(8, _), (7, _), (3, _), (1, _), (2, _)]) (.cons rfl (.cons rfl (.cons rfl (.cons rfl (.cons rfl .nil))))) ?_)
  refine Fw.seq fun _ hK3 => ?_
  refine Fw.seq fun _ hK4 => ?_
  refine Fw.region ?_
  refine Fw.call cf12 rfl rfl (lawake_any _) ?_
  rintro e_ w6 ⟨rfl, hb⟩
  refine ⟨_, rfl, ?_⟩
  replace Hn := Hn.low hb
  replace HG := HG.low hb
  replace HG2 := HG2.low hb
  replace HB := HB.trans (hb.mono HB.size)
  clear hb
  refine Fw.s (Fw.val_not rfl) rfl ?_
  refine Fw.s (Fw.val_move rfl) rfl ?_
  refine Fw.gT (d := 17) rfl rfl ?_
  refine Fw.s (Fw.val_move rfl) rfl ?_
  refine Fw.gT (d := 17) rfl rfl ?_
  refine Fw.s (Fw.val_bin rfl rfl (Fw.b_nilP Try.underlying27)) rfl ?_
  refine Fw.s (Fw.val_pickF rfl rfl) rfl ?_
  refine Fw.s (Fw.val_move rfl) rfl ?_
  refine Fw.gT (d := 21) rfl rfl ?_
  refine Fw.s (Fw.val_move rfl) rfl ?_
  refine Fw.gT (d := 21) rfl rfl ?_
  refine Fw.s (Fw.val_bin rfl rfl (Fw.b_nilP Try.underlying27)) rfl ?_
  refine Fw.s (Fw.val_pickF rfl rfl) rfl ?_
  refine Fw.s (Fw.val_move rfl) rfl ?_
  refine Fw.gT (d := 25) rfl rfl ?_
  refine Fw.s (Fw.val_move rfl) rfl ?_
  refine Fw.gT (d := 25) rfl rfl ?_
  refine Fw.s (Fw.val_move rfl) rfl ?_
  refine Fw.gT (d := 25) rfl rfl ?_
  refine Fw.call cf13 rfl rfl (lfew_any _ A ts.length c An ends.length cn) ?_
  rintro e_ _ ⟨rfl, rfl⟩
  refine ⟨_, rfl, ?_⟩
  refine Fw.b2 ?_ ?_
  · rintro hf
    refine Fw.gT (d := 25) rfl rfl ?_
    refine Fw.s (Fw.val_not rfl) rfl ?_
    refine Fw.s (Fw.val_pickF rfl rfl) rfl ?_
    refine Fw.nil ?_
    refine hK4 _ _ (Fw.FC.sub (f' := [(30, _), (8, _), (7, _), (3, _), (1, _), (2, _)]) (.cons rfl (.cons rfl (.cons rfl (.cons rfl (.cons rfl (.cons rfl .nil)))))) ?_)
    refine Fw.condF rfl ?_
    refine Fw.skip ?_
    refine hK3 _ _ ?_
    refine Fw.seq fun _ hK5 => ?_
    have hf := of_decide_eq_true hf
    refine Fw.region ?_
    refine Fw.s (Fw.val_move rfl) rfl ?_
    refine Fw.s (Fw.val_move rfl) rfl ?_
    refine Fw.call cf16 rfl rfl (longs_any _ A ts c (h.low HB) (by omega)) ?_
    rintro e_ w7 ⟨AL, cL, rfl, HL, hb⟩
    refine ⟨_, rfl, ?_⟩
    replace Hn := Hn.low hb
    replace HG := HG.low hb
    replace HG2 := HG2.low hb
    replace HB := HB.trans (hb.mono HB.size)
    clear hb
    refine Fw.s (Fw.val_move rfl) rfl ?_
    refine Fw.call cf17 rfl rfl (ints_any _ An ends cn (hen.low HB) (by omega)) ?_
    rintro e_ w8 ⟨AI, cI, rfl, HI, hb⟩
    refine ⟨_, rfl, ?_⟩
    replace Hn := Hn.low hb
    replace HG := HG.low hb
    replace HG2 := HG2.low hb
    replace HL := own_below HL hb (Nat.le_refl _)
    replace HB := HB.trans (hb.mono HB.size)
    clear hb
    refine Fw.call cf25 rfl rfl (to_any _ g N E HG (by omega) (by omega) hn.ok AL ts cL (Rd.of_own HL) AI ends cI (by omega) (Rd.of_own HI)) ?_
    rintro e_ w9 ⟨AT, cT, dl, rfl, HT, hdl, hdist, hb⟩
    refine ⟨_, rfl, ?_⟩
    replace Hn := Hn.low hb
    replace HG := HG.low hb
    replace HG2 := HG2.low hb
    replace HL := own_below HL hb (Nat.le_refl _)
    replace HI := own_below HI hb (Nat.le_refl _)
    replace HB := HB.trans (hb.mono HB.size)
    clear hb
    clear HL HI
    refine Fw.s (Fw.val_assign rfl) rfl ?_
    refine Fw.nil ?_
    refine hK5 _ _ (Fw.FC.sub (f' := [(9, _), (8, _), (3, _), (1, _), (2, _)]) (.cons rfl (.cons rfl (.cons rfl (.cons rfl (.cons rfl .nil))))) ?_)
    refine Fw.seq fun _ hK6 => ?_
    refine Fw.region ?_
    refine Fw.s (Fw.val_move rfl) rfl ?_
    refine Fw.ldA ag24 rfl (Fw.rdBlk Hn) rfl rfl ?_
    refine Fw.s (Fw.val_move rfl) rfl ?_
    refine Fw.s (Fw.val_move rfl) rfl ?_
    refine Fw.call cf26 rfl rfl (refTo_any _ N E Ae ce (hE.low HB) hn.ok (by omega) (by omega) A ts c (h.low HB) An ends cn (by omega) (hen.low HB)) ?_
    rintro e_ w10 ⟨AR, cR, rfl, HR, hb⟩
    refine ⟨_, rfl, ?_⟩
    replace Hn := Hn.low hb
    replace HG := HG.low hb
    replace HG2 := HG2.low hb
    replace HT := own_below HT hb (Nat.le_refl _)
    replace HB := HB.trans (hb.mono HB.size)
    clear hb
    refine Fw.call cf14 rfl rfl (same2_any _ N N AT dl cT hdl (Rd.of_own HT) (by omega) AR (Sp.rounds (Rg.arcT N E ts false) (Sp.init N ends) N) cR (Rg.rounds_len (Rg.arcT_ok ts false hn.ok) ends) (Rd.of_own HR)) ?_
    rintro e_ w11 ⟨rfl, hb⟩
    refine ⟨_, rfl, ?_⟩
    replace Hn := Hn.low hb
    replace HG := HG.low hb
    replace HG2 := HG2.low hb
    replace HT := own_below HT hb (Nat.le_refl _)
    replace HR := own_below HR hb (Nat.le_refl _)
    replace HB := HB.trans (hb.mono HB.size)
    clear hb
    rw [decide_eq_true (show dl = (Sp.rounds (Rg.arcT N E ts false) (Sp.init N ends) N) from (Sp.rounds_list (Rg.arcT_ok ts false hn.ok) hdl hdist).symm)]
    refine Fw.s (Fw.val_move rfl) rfl ?_
    refine Fw.gT (d := 44) rfl rfl ?_
    refine Fw.s (Fw.val_move rfl) rfl ?_
    refine Fw.gT (d := 44) rfl rfl ?_
    refine Fw.s (Fw.val_move rfl) rfl ?_
    refine Fw.gT (d := 44) rfl rfl ?_
    refine Fw.s (Fw.val_move rfl) rfl ?_
    refine Fw.gT (d := 44) rfl rfl ?_
    refine Fw.call cf16 rfl rfl (longs_any _ A ts c (h.low HB) (by omega)) ?_
    rintro e_ w12 ⟨AL2, cL2, rfl, HL2, hb⟩
    refine ⟨_, rfl, ?_⟩
    replace Hn := Hn.low hb
    replace HG := HG.low hb
    replace HG2 := HG2.low hb
    replace HT := own_below HT hb (Nat.le_refl _)
    replace HR := own_below HR hb (Nat.le_refl _)
    replace HB := HB.trans (hb.mono HB.size)
    clear hb
    refine Fw.gT (d := 44) rfl rfl ?_
    refine Fw.s (Fw.val_move rfl) rfl ?_
    refine Fw.gT (d := 44) rfl rfl ?_
    refine Fw.call cf17 rfl rfl (ints_any _ An ends cn (hen.low HB) (by omega)) ?_
    rintro e_ w13 ⟨AI2, cI2, rfl, HI2, hb⟩
    refine ⟨_, rfl, ?_⟩
    replace Hn := Hn.low hb
    replace HG := HG.low hb
    replace HG2 := HG2.low hb
    replace HT := own_below HT hb (Nat.le_refl _)
    replace HR := own_below HR hb (Nat.le_refl _)
    replace HL2 := own_below HL2 hb (Nat.le_refl _)
    replace HB := HB.trans (hb.mono HB.size)
    clear hb
    refine Fw.gT (d := 44) rfl rfl ?_
    refine Fw.call cf15 rfl rfl (from_any _ g2 N (E.map Rg.Ed.swap) HG2 (by omega) (by rw [List.length_map]; omega) hn.swap.ok AL2 ts cL2 (Rd.of_own HL2) AI2 ends cI2 (by omega) (Rd.of_own HI2)) ?_
    rintro e_ w14 ⟨AF, cF, d2, rfl, HF, hd2, hdist2, hb⟩
    refine ⟨_, rfl, ?_⟩
    replace Hn := Hn.low hb
    replace HG := HG.low hb
    replace HG2 := HG2.low hb
    replace HT := own_below HT hb (Nat.le_refl _)
    replace HR := own_below HR hb (Nat.le_refl _)
    replace HL2 := own_below HL2 hb (Nat.le_refl _)
    replace HI2 := own_below HI2 hb (Nat.le_refl _)
    replace HB := HB.trans (hb.mono HB.size)
    clear hb
    rw [Rg.arcT_swap] at hdist2
    refine Fw.gT (d := 44) rfl rfl ?_
    refine Fw.call cf14 rfl rfl (same2_any _ N N AT dl cT hdl (Rd.of_own HT) (by omega) AF d2 cF hd2 (Rd.of_own HF)) ?_
    rintro e_ w15 ⟨rfl, hb⟩
    refine ⟨_, rfl, ?_⟩
    replace Hn := Hn.low hb
    replace HG := HG.low hb
    replace HG2 := HG2.low hb
    replace HT := own_below HT hb (Nat.le_refl _)
    replace HR := own_below HR hb (Nat.le_refl _)
    replace HL2 := own_below HL2 hb (Nat.le_refl _)
    replace HI2 := own_below HI2 hb (Nat.le_refl _)
    replace HF := own_below HF hb (Nat.le_refl _)
    replace HB := HB.trans (hb.mono HB.size)
    clear hb
    rw [decide_eq_true ((Sp.rounds_list (Rg.arcT_ok ts false hn.ok) hdl hdist).symm.trans (Sp.rounds_list (Rg.arcT_ok ts false hn.ok) hd2 hdist2))]
    refine Fw.s (Fw.val_pickT rfl rfl) rfl ?_
    refine Fw.s (Fw.val_assign rfl) rfl ?_
    refine Fw.nil ?_
    refine hK6 _ _ (Fw.FC.sub (f' := [(6, _)]) (.cons rfl .nil) ?_)
    refine Fw.ret ?_
    refine Fw.ret_ [.tmp 6] [_] Try.results9 (.tmp rfl .nil) ?_
    exact ⟨rfl, HB⟩
  · rintro hf
    refine Fw.gT (d := 25) rfl rfl ?_
    refine Fw.s (Fw.val_not rfl) rfl ?_
    refine Fw.s (Fw.val_pickF rfl rfl) rfl ?_
    refine Fw.nil ?_
    refine hK4 _ _ (Fw.FC.sub (f' := [(30, _), (8, _), (7, _), (3, _), (1, _), (2, _)]) (.cons rfl (.cons rfl (.cons rfl (.cons rfl (.cons rfl (.cons rfl .nil)))))) ?_)
    refine Fw.condT rfl ?_
    refine Fw.seq fun _ hK7 => ?_
    refine Fw.region ?_
    refine Fw.call cf12 rfl rfl (lawake_any _) ?_
    rintro e_ w16 ⟨rfl, hb⟩
    refine ⟨_, rfl, ?_⟩
    replace Hn := Hn.low hb
    replace HG := HG.low hb
    replace HG2 := HG2.low hb
    replace HB := HB.trans (hb.mono HB.size)
    clear hb
    refine Fw.s (Fw.val_assign rfl) rfl ?_
    refine Fw.nil ?_
    refine hK7 _ _ (Fw.FC.sub (f' := [(6, _)]) (.cons rfl .nil) ?_)
    refine Fw.ret ?_
    refine Fw.X_ret ?_
    refine Fw.ret_ [.tmp 6] [_] Try.results9 (.tmp rfl .nil) ?_
    exact ⟨rfl, HB⟩

set_option maxRecDepth 100000 in
set_option maxHeartbeats 1000000 in
theorem lmin_no (w : World) (N : Int) (R : List Rg.Re) (Ae : Option Addr) (ce : Nat) (hR : Rd w Ae (R.flatMap Rg.Re.cells)) (hno : ¬ Rg.Right N R) (A : Option Addr) (ts : List Int) (c : Nat) (h : Rd w A (ts.map (.int .i64))) (Aw : Option Addr) (way : List Int) (cw : Nat) (hw : Rd w Aw (way.map (.int .i64))) (a b : Int) : Calls Try.prog 8 #[.agg #[.int .i64 N, .slice Ae R.length ce], .slice A ts.length c, .agg #[.slice Aw way.length cw, .int .i64 a, .int .i64 b]] w fun e_ w' => e_ = .returned (.bool true) ∧ Below w.heap.size w w' := by
  refine Fw.calls Try.func8 rfl Try.ntmps8 rfl ?_
  have HB := Below.refl (w.heap.size) w
  refine Fw.seq fun _ hK1 => ?_
  refine Fw.region ?_
  refine Fw.box rfl rfl ?_
  intro w1 gn egn Hn hb
  have lgn : w.heap.size ≤ gn := by have := HB.size; omega
  replace HB := HB.trans (hb.mono HB.size)
  clear hb
  clear egn
  refine Fw.box rfl rfl ?_
  intro w2 gx egx Hx hb
  have n_gn_gx : gn < gx := by have := Hn.lt; omega
  have lgx : w.heap.size ≤ gx := by have := HB.size; omega
  replace Hn := Hn.low hb
  replace HB := HB.trans (hb.mono HB.size)
  clear hb
  clear egx
  refine Fw.s (Fw.val_assign rfl) rfl ?_
  refine Fw.nil ?_
  refine hK1 _ _ ?_
  refine Fw.seq fun _ hK2 => ?_
  refine Fw.region ?_
  refine Fw.ldA ag24 rfl (Fw.rdBlk Hn) rfl rfl ?_
  refine Fw.call cf11 rfl rfl (netNo_any _ N R Ae ce (hR.low HB) hno) ?_
  rintro e_ w3 ⟨rfl, hb⟩
  refine ⟨_, rfl, ?_⟩
  replace Hn := Hn.low hb
  replace Hx := Hx.low hb
  replace HB := HB.trans (hb.mono HB.size)
  clear hb
  refine Fw.s (Fw.val_assign rfl) rfl ?_
  refine Fw.nil ?_
  refine hK2 _ _ ?_
  refine Fw.seq fun _ hK3 => ?_
  refine Fw.seq fun _ hK4 => ?_
  refine Fw.region ?_
  refine Fw.call cf12 rfl rfl (lawake_any _) ?_
  rintro e_ w4 ⟨rfl, hb⟩
  refine ⟨_, rfl, ?_⟩
  replace Hn := Hn.low hb
  replace Hx := Hx.low hb
  replace HB := HB.trans (hb.mono HB.size)
  clear hb
  refine Fw.s (Fw.val_not rfl) rfl ?_
  refine Fw.s (Fw.val_move rfl) rfl ?_
  refine Fw.gT (d := 19) rfl rfl ?_
  refine Fw.s (Fw.val_move rfl) rfl ?_
  refine Fw.gT (d := 19) rfl rfl ?_
  refine Fw.s (Fw.val_bin rfl rfl (Fw.b_nilP Try.underlying27)) rfl ?_
  refine Fw.s (Fw.val_pickF rfl rfl) rfl ?_
  refine Fw.s (Fw.val_move rfl) rfl ?_
  refine Fw.gF (d := 23) rfl rfl rfl rfl ?_
  refine Fw.gF (d := 23) rfl rfl rfl rfl ?_
  refine Fw.gF (d := 23) rfl rfl rfl rfl ?_
  refine Fw.gF (d := 23) rfl rfl rfl rfl ?_
  refine Fw.gF (d := 23) rfl rfl rfl rfl ?_
  refine Fw.s (Fw.val_pickT rfl rfl) rfl ?_
  refine Fw.nil ?_
  refine hK4 _ _ (Fw.FC.sub (f' := [(29, _), (7, _), (5, _), (1, _)]) (.cons rfl (.cons rfl (.cons rfl (.cons rfl .nil)))) ?_)
  refine Fw.condT rfl ?_
  refine Fw.seq fun _ hK5 => ?_
  refine Fw.region ?_
  refine Fw.call cf12 rfl rfl (lawake_any _) ?_
  rintro e_ w5 ⟨rfl, hb⟩
  refine ⟨_, rfl, ?_⟩
  replace Hn := Hn.low hb
  replace Hx := Hx.low hb
  replace HB := HB.trans (hb.mono HB.size)
  clear hb
  refine Fw.s (Fw.val_assign rfl) rfl ?_
  refine Fw.nil ?_
  refine hK5 _ _ ?_
  refine Fw.ret ?_
  refine Fw.X_ret ?_
  refine Fw.ret_ [.tmp 6] [_] Try.results8 (.tmp rfl .nil) ?_
  exact ⟨rfl, HB⟩

set_option maxRecDepth 100000 in
set_option maxHeartbeats 1000000 in
theorem lmin_out (w : World) (N : Nat) (E : List Rg.Ed) (Ae : Option Addr) (ce : Nat) (hE : Rd w Ae (E.flatMap Rg.Ed.cells)) (hn : Rg.Net N E) (A : Option Addr) (ts : List Int) (c : Nat) (h : Rd w A (ts.map (.int .i64))) (Aw : Option Addr) (way : List Int) (cw : Nat) (hw : Rd w Aw (way.map (.int .i64))) (a b : Int) (hab : ¬ ((0 ≤ a ∧ a < (N : Int)) ∧ (0 ≤ b ∧ b < (N : Int)))) : Calls Try.prog 8 #[.agg #[.int .i64 (N : Int), .slice Ae E.length ce], .slice A ts.length c, .agg #[.slice Aw way.length cw, .int .i64 a, .int .i64 b]] w fun e_ w' => e_ = .returned (.bool true) ∧ Below w.heap.size w w' := by
  have hn1 := hn.n
  have hn2 := hn.e
  refine Fw.calls Try.func8 rfl Try.ntmps8 rfl ?_
  have HB := Below.refl (w.heap.size) w
  refine Fw.seq fun _ hK1 => ?_
  refine Fw.region ?_
  refine Fw.box rfl rfl ?_
  intro w1 gn egn Hn hb
  have lgn : w.heap.size ≤ gn := by have := HB.size; omega
  replace HB := HB.trans (hb.mono HB.size)
  clear hb
  clear egn
  refine Fw.box rfl rfl ?_
  intro w2 gx egx Hx hb
  have n_gn_gx : gn < gx := by have := Hn.lt; omega
  have lgx : w.heap.size ≤ gx := by have := HB.size; omega
  replace Hn := Hn.low hb
  replace HB := HB.trans (hb.mono HB.size)
  clear hb
  clear egx
  refine Fw.s (Fw.val_assign rfl) rfl ?_
  refine Fw.nil ?_
  refine hK1 _ _ ?_
  refine Fw.seq fun _ hK2 => ?_
  refine Fw.region ?_
  refine Fw.ldA ag24 rfl (Fw.rdBlk Hn) rfl rfl ?_
  refine Fw.call cf11 rfl rfl (net_any _ N E Ae ce (hE.low HB) hn) ?_
  rintro e_ w3 ⟨g, rfl, HG, hb⟩
  refine ⟨_, rfl, ?_⟩
  replace Hn := Hn.low hb
  replace Hx := Hx.low hb
  replace HB := HB.trans (hb.mono HB.size)
  clear hb
  refine Fw.s (Fw.val_assign rfl) rfl ?_
  refine Fw.nil ?_
  refine hK2 _ _ ?_
  refine Fw.seq fun _ hK3 => ?_
  refine Fw.seq fun _ hK4 => ?_
  refine Fw.region ?_
  refine Fw.call cf12 rfl rfl (lawake_any _) ?_
  rintro e_ w4 ⟨rfl, hb⟩
  refine ⟨_, rfl, ?_⟩
  replace Hn := Hn.low hb
  replace Hx := Hx.low hb
  replace HG := HG.low hb
  replace HB := HB.trans (hb.mono HB.size)
  clear hb
  refine Fw.s (Fw.val_not rfl) rfl ?_
  refine Fw.s (Fw.val_move rfl) rfl ?_
  refine Fw.gT (d := 19) rfl rfl ?_
  refine Fw.s (Fw.val_move rfl) rfl ?_
  refine Fw.gT (d := 19) rfl rfl ?_
  refine Fw.s (Fw.val_bin rfl rfl (Fw.b_nilP Try.underlying27)) rfl ?_
  refine Fw.s (Fw.val_pickF rfl rfl) rfl ?_
  refine Fw.s (Fw.val_move rfl) rfl ?_
  refine Fw.gT (d := 23) rfl rfl ?_
  refine Fw.s (Fw.val_move rfl) rfl ?_
  refine Fw.gT (d := 23) rfl rfl ?_
  refine Fw.s (Fw.val_fieldAddr fl43_0 rfl rfl) rfl ?_
  refine Fw.gT (d := 23) rfl rfl ?_
  refine Fw.ld sc26 rfl (Hx.cell 0) rfl ?_
  refine Fw.gT (d := 23) rfl rfl ?_
  refine Fw.call cf13 rfl rfl (lfew_any _ A ts.length c Aw way.length cw) ?_
  rintro e_ _ ⟨rfl, rfl⟩
  refine ⟨_, rfl, ?_⟩
  refine Fw.b2 ?_ ?_
  · rintro hf
    refine Fw.gT (d := 23) rfl rfl ?_
    refine Fw.s (Fw.val_not rfl) rfl ?_
    refine Fw.s (Fw.val_pickF rfl rfl) rfl ?_
    refine Fw.nil ?_
    refine hK4 _ _ (Fw.FC.sub (f' := [(29, _), (7, _), (5, _), (1, _)]) (.cons rfl (.cons rfl (.cons rfl (.cons rfl .nil)))) ?_)
    refine Fw.condF rfl ?_
    refine Fw.skip ?_
    refine hK3 _ _ ?_
    refine Fw.seq fun _ hK5 => ?_
    have hf := of_decide_eq_true hf
    refine Fw.regionH (by kernel_rfl) ?_
    have R_Hn := Hn
    have R_Hx := Hx
    have R_HB := HB
    intro w5 hb
    have HS := hb
    replace Hn := Hn.low hb
    replace Hx := Hx.low hb
    replace HG := HG.low hb
    replace HB := HB.trans (hb.mono HB.size)
    clear hb
    refine Fw.hTake 0 rfl rfl (by kernel_rfl) (by kernel_rfl) (by kernel_rfl) (Fw.yV (Fw.val_move rfl)) rfl ?_
    refine Fw.hTake 1 rfl rfl (by kernel_rfl) (by kernel_rfl) (by kernel_rfl) (Fw.yV (Fw.val_move rfl)) rfl ?_
    refine Fw.hTake 3 rfl rfl (by kernel_rfl) (by kernel_rfl) (by kernel_rfl) (Fw.yV (Fw.val_fieldAddr fl43_1 rfl rfl)) rfl ?_
    refine Fw.hTake 4 rfl rfl (by kernel_rfl) (by kernel_rfl) (by kernel_rfl) (Fw.yV (Fw.hLd sc3 rfl (R_Hx.cell 1))) rfl ?_
    refine Fw.hTake 5 rfl rfl (by kernel_rfl) (by kernel_rfl) (by kernel_rfl) (Fw.yV (Fw.val_fieldAddr fl43_2 rfl rfl)) rfl ?_
    refine Fw.hTake 6 rfl rfl (by kernel_rfl) (by kernel_rfl) (by kernel_rfl) (Fw.yV (Fw.hLd sc3 rfl (R_Hx.cell 2))) rfl ?_
    refine Fw.hAll1 2 (by kernel_rfl) ?_
    refine Fw.hOp 2 rfl ?_
    refine Fw.call cf16 rfl rfl (longs_any _ A ts c (h.low HB) (by omega)) ?_
    rintro e_ w6 ⟨AL, cL, rfl, HL, hb⟩
    refine ⟨_, rfl, ?_⟩
    replace Hn := Hn.low hb
    replace Hx := Hx.low hb
    replace HG := HG.low hb
    replace HS := HS.trans (hb.mono HS.size)
    replace HB := HB.trans (hb.mono HB.size)
    clear hb
    refine Fw.hNext HS ?_
    refine Fw.hAll1 7 (by kernel_rfl) ?_
    refine Fw.hOp 7 rfl ?_
    refine Fw.call cf19 rfl rfl (pathNo_any _ g N E HG _ a b hab) ?_
    rintro e_ w7 ⟨rfl, hb⟩
    refine ⟨_, rfl, ?_⟩
    replace Hn := Hn.low hb
    replace Hx := Hx.low hb
    replace HG := HG.low hb
    replace HS := HS.trans (hb.mono HS.size)
    replace HL := own_below HL hb (Nat.le_refl _)
    replace HB := HB.trans (hb.mono HB.size)
    clear hb
    refine Fw.hNext HS ?_
    refine Fw.hTake 8 rfl rfl (by kernel_rfl) (by kernel_rfl) (by kernel_rfl) (Fw.yV (Fw.val_move rfl)) rfl ?_
    refine Fw.hTake 9 rfl rfl (by kernel_rfl) (by kernel_rfl) (by kernel_rfl) (Fw.yV (Fw.val_extract rfl rfl)) rfl ?_
    refine Fw.hTake 10 rfl rfl (by kernel_rfl) (by kernel_rfl) (by kernel_rfl) (Fw.yV (Fw.val_extract rfl rfl)) rfl ?_
    refine Fw.hTake 11 rfl rfl (by kernel_rfl) (by kernel_rfl) (by kernel_rfl) (Fw.yV (Fw.val_extract rfl rfl)) rfl ?_
    refine Fw.hTake 12 rfl rfl (by kernel_rfl) (by kernel_rfl) (by kernel_rfl) (Fw.yV (Fw.val_assign rfl)) rfl ?_
    refine Fw.hTake 13 rfl rfl (by kernel_rfl) (by kernel_rfl) (by kernel_rfl) (Fw.yV (Fw.val_assign rfl)) rfl ?_
    refine Fw.hTake 14 rfl rfl (by kernel_rfl) (by kernel_rfl) (by kernel_rfl) (Fw.yV (Fw.val_assign rfl)) rfl ?_
    refine Fw.hDone (by kernel_rfl) ?_
    refine hK5 _ _ (Fw.FC.sub (f' := [(10, _), (9, _), (8, _), (7, _), (5, _), (1, _)]) (.cons rfl (.cons rfl (.cons rfl (.cons rfl (.cons rfl (.cons rfl .nil)))))) ?_)
    refine Fw.seq fun _ hK6 => ?_
    refine Fw.seq fun _ hK7 => ?_
    refine Fw.region ?_
    refine Fw.s (Fw.val_move rfl) rfl ?_
    refine Fw.nil ?_
    refine hK7 _ _ ?_
    refine Fw.condF rfl ?_
    refine Fw.skip ?_
    refine hK6 _ _ ?_
    refine Fw.seq fun _ hK8 => ?_
    refine Fw.regionH (by kernel_rfl) ?_
    have R_Hn := Hn
    have R_Hx := Hx
    have R_HB := HB
    intro w8 hb
    have HS := hb
    replace Hn := Hn.low hb
    replace Hx := Hx.low hb
    replace HG := HG.low hb
    replace HL := own_below HL hb (Nat.le_refl _)
    replace HB := HB.trans (hb.mono HB.size)
    clear hb
    refine Fw.hTake 0 rfl rfl (by kernel_rfl) (by kernel_rfl) (by kernel_rfl) (Fw.yV (Fw.val_move rfl)) rfl ?_
    refine Fw.hTake 1 rfl rfl (by kernel_rfl) (by kernel_rfl) (by kernel_rfl) (Fw.yV (Fw.val_move rfl)) rfl ?_
    refine Fw.hTake 3 rfl rfl (by kernel_rfl) (by kernel_rfl) (by kernel_rfl) (Fw.yV (Fw.val_fieldAddr fl43_0 rfl rfl)) rfl ?_
    refine Fw.hTake 4 rfl rfl (by kernel_rfl) (by kernel_rfl) (by kernel_rfl) (Fw.yV (Fw.hLd sc26 rfl (R_Hx.cell 0))) rfl ?_
    refine Fw.hTake 6 rfl rfl (by kernel_rfl) (by kernel_rfl) (by kernel_rfl) (Fw.yV (Fw.val_fieldAddr fl43_1 rfl rfl)) rfl ?_
    refine Fw.hTake 7 rfl rfl (by kernel_rfl) (by kernel_rfl) (by kernel_rfl) (Fw.yV (Fw.hLd sc3 rfl (R_Hx.cell 1))) rfl ?_
    refine Fw.hTake 8 rfl rfl (by kernel_rfl) (by kernel_rfl) (by kernel_rfl) (Fw.yV (Fw.val_fieldAddr fl43_2 rfl rfl)) rfl ?_
    refine Fw.hTake 9 rfl rfl (by kernel_rfl) (by kernel_rfl) (by kernel_rfl) (Fw.yV (Fw.hLd sc3 rfl (R_Hx.cell 2))) rfl ?_
    refine Fw.hAll1 2 (by kernel_rfl) ?_
    refine Fw.hOp 2 rfl ?_
    refine Fw.call cf16 rfl rfl (longs_any _ A ts c (h.low HB) (by omega)) ?_
    rintro e_ w9 ⟨AL9, cL9, rfl, HL9, hb⟩
    refine ⟨_, rfl, ?_⟩
    replace Hn := Hn.low hb
    replace Hx := Hx.low hb
    replace HG := HG.low hb
    replace HL := own_below HL hb (Nat.le_refl _)
    replace HS := HS.trans (hb.mono HS.size)
    replace HB := HB.trans (hb.mono HB.size)
    clear hb
    refine Fw.hNext HS ?_
    refine Fw.hAll1 5 (by kernel_rfl) ?_
    refine Fw.hOp 5 rfl ?_
    refine Fw.call cf17 rfl rfl (ints_any _ Aw way cw (hw.low HB) (by omega)) ?_
    rintro e_ w10 ⟨AI9, cI9, rfl, HI9, hb⟩
    refine ⟨_, rfl, ?_⟩
    replace Hn := Hn.low hb
    replace Hx := Hx.low hb
    replace HG := HG.low hb
    replace HL := own_below HL hb (Nat.le_refl _)
    replace HS := HS.trans (hb.mono HS.size)
    replace HL9 := own_below HL9 hb (Nat.le_refl _)
    replace HB := HB.trans (hb.mono HB.size)
    clear hb
    refine Fw.hNext HS ?_
    refine Fw.hAll1 10 (by kernel_rfl) ?_
    refine Fw.hOp 10 rfl ?_
    refine Fw.call cf21 rfl rfl (pathTime_any _ g N E HG (by omega) AL9 ts cL9 (Rd.of_own HL9) AI9 way cI9 (by omega) (Rd.of_own HI9) a b) ?_
    rintro e_ w11 ⟨rfl, hb⟩
    refine ⟨_, rfl, ?_⟩
    replace Hn := Hn.low hb
    replace Hx := Hx.low hb
    replace HG := HG.low hb
    replace HL := own_below HL hb (Nat.le_refl _)
    replace HS := HS.trans (hb.mono HS.size)
    replace HL9 := own_below HL9 hb (Nat.le_refl _)
    replace HI9 := own_below HI9 hb (Nat.le_refl _)
    replace HB := HB.trans (hb.mono HB.size)
    clear hb
    rw [Rg.pt1 hab]
    refine Fw.hNext HS ?_
    refine Fw.hTake 11 rfl rfl (by kernel_rfl) (by kernel_rfl) (by kernel_rfl) (Fw.yV (Fw.val_move rfl)) rfl ?_
    refine Fw.hTake 12 rfl rfl (by kernel_rfl) (by kernel_rfl) (by kernel_rfl) (Fw.yV (Fw.val_extract rfl rfl)) rfl ?_
    refine Fw.hTake 13 rfl rfl (by kernel_rfl) (by kernel_rfl) (by kernel_rfl) (Fw.yV (Fw.val_extract rfl rfl)) rfl ?_
    refine Fw.hTake 14 rfl rfl (by kernel_rfl) (by kernel_rfl) (by kernel_rfl) (Fw.yV (Fw.val_assign rfl)) rfl ?_
    refine Fw.hTake 15 rfl rfl (by kernel_rfl) (by kernel_rfl) (by kernel_rfl) (Fw.yV (Fw.val_assign rfl)) rfl ?_
    refine Fw.hDone (by kernel_rfl) ?_
    refine hK8 _ _ (Fw.FC.sub (f' := [(14, _), (13, _), (10, _), (9, _), (8, _), (5, _)]) (.cons rfl (.cons rfl (.cons rfl (.cons rfl (.cons rfl (.cons rfl .nil)))))) ?_)
    refine Fw.seq fun _ hK9 => ?_
    refine Fw.region ?_
    refine Fw.s (Fw.val_move rfl) rfl ?_
    refine Fw.s (Fw.Val.T (Fw.val_bin rfl rfl Fw.b_neq) (by decide)) rfl ?_
    refine Fw.s (Fw.val_move rfl) rfl ?_
    refine Fw.gF (d := 80) rfl rfl rfl rfl ?_
    refine Fw.gF (d := 80) rfl rfl rfl rfl ?_
    refine Fw.gU (d := 82) rfl rfl rfl ?_
    refine Fw.gU (d := 82) rfl rfl rfl ?_
    refine Fw.gU (d := 82) rfl rfl rfl ?_
    refine Fw.gF (d := 80) rfl rfl rfl rfl ?_
    refine Fw.gF (d := 80) rfl rfl rfl rfl ?_
    refine Fw.gU (d := 87) rfl rfl rfl ?_
    refine Fw.gU (d := 87) rfl rfl rfl ?_
    refine Fw.gU (d := 87) rfl rfl rfl ?_
    refine Fw.gU (d := 87) rfl rfl rfl ?_
    refine Fw.gU (d := 91) rfl rfl rfl ?_
    refine Fw.gU (d := 91) rfl rfl rfl ?_
    refine Fw.gU (d := 91) rfl rfl rfl ?_
    refine Fw.gU (d := 91) rfl rfl rfl ?_
    refine Fw.gU (d := 91) rfl rfl rfl ?_
    refine Fw.gU (d := 91) rfl rfl rfl ?_
    refine Fw.gU (d := 87) rfl rfl rfl ?_
    refine Fw.gF (d := 80) rfl rfl rfl rfl ?_
    refine Fw.s (Fw.val_pickT rfl rfl) rfl ?_
    refine Fw.s (Fw.val_assign rfl) rfl ?_
    refine Fw.nil ?_
    refine hK9 _ _ (Fw.FC.sub (f' := [(6, _)]) (.cons rfl .nil) ?_)
    refine Fw.ret ?_
    refine Fw.ret_ [.tmp 6] [_] Try.results8 (.tmp rfl .nil) ?_
    exact ⟨rfl, HB⟩
  · rintro hf
    refine Fw.gT (d := 23) rfl rfl ?_
    refine Fw.s (Fw.val_not rfl) rfl ?_
    refine Fw.s (Fw.val_pickF rfl rfl) rfl ?_
    refine Fw.nil ?_
    refine hK4 _ _ (Fw.FC.sub (f' := [(29, _), (7, _), (5, _), (1, _)]) (.cons rfl (.cons rfl (.cons rfl (.cons rfl .nil)))) ?_)
    refine Fw.condT rfl ?_
    refine Fw.seq fun _ hK10 => ?_
    refine Fw.region ?_
    refine Fw.call cf12 rfl rfl (lawake_any _) ?_
    rintro e_ w12 ⟨rfl, hb⟩
    refine ⟨_, rfl, ?_⟩
    replace Hn := Hn.low hb
    replace Hx := Hx.low hb
    replace HG := HG.low hb
    replace HB := HB.trans (hb.mono HB.size)
    clear hb
    refine Fw.s (Fw.val_assign rfl) rfl ?_
    refine Fw.nil ?_
    refine hK10 _ _ ?_
    refine Fw.ret ?_
    refine Fw.X_ret ?_
    refine Fw.ret_ [.tmp 6] [_] Try.results8 (.tmp rfl .nil) ?_
    exact ⟨rfl, HB⟩

set_option maxRecDepth 100000 in
set_option maxHeartbeats 1000000 in
theorem lmin_in0 (w : World) (N : Nat) (E : List Rg.Ed) (Ae : Option Addr) (ce : Nat) (hE : Rd w Ae (E.flatMap Rg.Ed.cells)) (hn : Rg.Net N E) (A : Option Addr) (ts : List Int) (c : Nat) (h : Rd w A (ts.map (.int .i64))) (Aw : Option Addr) (way : List Int) (cw : Nat) (hw : Rd w Aw (way.map (.int .i64))) (a b : Nat) (ha : a < N) (hb_ : b < N) (D : Nat → Int) (hD : Sp.IsDist (Sp.star (Rg.arcT N E ts false)) 8589934593 (· = b) D) (hq : D a = Sp.INF) : Calls Try.prog 8 #[.agg #[.int .i64 (N : Int), .slice Ae E.length ce], .slice A ts.length c, .agg #[.slice Aw way.length cw, .int .i64 (a : Int), .int .i64 (b : Int)]] w fun e_ w' => e_ = .returned (.bool true) ∧ Below w.heap.size w w' := by
  have hn1 := hn.n
  have hn2 := hn.e
  refine Fw.calls Try.func8 rfl Try.ntmps8 rfl ?_
  have HB := Below.refl (w.heap.size) w
  refine Fw.seq fun _ hK1 => ?_
  refine Fw.region ?_
  refine Fw.box rfl rfl ?_
  intro w1 gn egn Hn hb
  have lgn : w.heap.size ≤ gn := by have := HB.size; omega
  replace HB := HB.trans (hb.mono HB.size)
  clear hb
  clear egn
  refine Fw.box rfl rfl ?_
  intro w2 gx egx Hx hb
  have n_gn_gx : gn < gx := by have := Hn.lt; omega
  have lgx : w.heap.size ≤ gx := by have := HB.size; omega
  replace Hn := Hn.low hb
  replace HB := HB.trans (hb.mono HB.size)
  clear hb
  clear egx
  refine Fw.s (Fw.val_assign rfl) rfl ?_
  refine Fw.nil ?_
  refine hK1 _ _ ?_
  refine Fw.seq fun _ hK2 => ?_
  refine Fw.region ?_
  refine Fw.ldA ag24 rfl (Fw.rdBlk Hn) rfl rfl ?_
  refine Fw.call cf11 rfl rfl (net_any _ N E Ae ce (hE.low HB) hn) ?_
  rintro e_ w3 ⟨g, rfl, HG, hb⟩
  refine ⟨_, rfl, ?_⟩
  replace Hn := Hn.low hb
  replace Hx := Hx.low hb
  replace HB := HB.trans (hb.mono HB.size)
  clear hb
  refine Fw.s (Fw.val_assign rfl) rfl ?_
  refine Fw.nil ?_
  refine hK2 _ _ ?_
  refine Fw.seq fun _ hK3 => ?_
  refine Fw.seq fun _ hK4 => ?_
  refine Fw.region ?_
  refine Fw.call cf12 rfl rfl (lawake_any _) ?_
  rintro e_ w4 ⟨rfl, hb⟩
  refine ⟨_, rfl, ?_⟩
  replace Hn := Hn.low hb
  replace Hx := Hx.low hb
  replace HG := HG.low hb
  replace HB := HB.trans (hb.mono HB.size)
  clear hb
  refine Fw.s (Fw.val_not rfl) rfl ?_
  refine Fw.s (Fw.val_move rfl) rfl ?_
  refine Fw.gT (d := 19) rfl rfl ?_
  refine Fw.s (Fw.val_move rfl) rfl ?_
  refine Fw.gT (d := 19) rfl rfl ?_
  refine Fw.s (Fw.val_bin rfl rfl (Fw.b_nilP Try.underlying27)) rfl ?_
  refine Fw.s (Fw.val_pickF rfl rfl) rfl ?_
  refine Fw.s (Fw.val_move rfl) rfl ?_
  refine Fw.gT (d := 23) rfl rfl ?_
  refine Fw.s (Fw.val_move rfl) rfl ?_
  refine Fw.gT (d := 23) rfl rfl ?_
  refine Fw.s (Fw.val_fieldAddr fl43_0 rfl rfl) rfl ?_
  refine Fw.gT (d := 23) rfl rfl ?_
  refine Fw.ld sc26 rfl (Hx.cell 0) rfl ?_
  refine Fw.gT (d := 23) rfl rfl ?_
  refine Fw.call cf13 rfl rfl (lfew_any _ A ts.length c Aw way.length cw) ?_
  rintro e_ _ ⟨rfl, rfl⟩
  refine ⟨_, rfl, ?_⟩
  refine Fw.b2 ?_ ?_
  · rintro hf
    refine Fw.gT (d := 23) rfl rfl ?_
    refine Fw.s (Fw.val_not rfl) rfl ?_
    refine Fw.s (Fw.val_pickF rfl rfl) rfl ?_
    refine Fw.nil ?_
    refine hK4 _ _ (Fw.FC.sub (f' := [(29, _), (7, _), (5, _), (1, _)]) (.cons rfl (.cons rfl (.cons rfl (.cons rfl .nil)))) ?_)
    refine Fw.condF rfl ?_
    refine Fw.skip ?_
    refine hK3 _ _ ?_
    refine Fw.seq fun _ hK5 => ?_
    have hf := of_decide_eq_true hf
    refine Fw.regionH (by kernel_rfl) ?_
    have R_Hn := Hn
    have R_Hx := Hx
    have R_HB := HB
    intro w5 hb
    have HS := hb
    replace Hn := Hn.low hb
    replace Hx := Hx.low hb
    replace HG := HG.low hb
    replace HB := HB.trans (hb.mono HB.size)
    clear hb
    refine Fw.hTake 0 rfl rfl (by kernel_rfl) (by kernel_rfl) (by kernel_rfl) (Fw.yV (Fw.val_move rfl)) rfl ?_
    refine Fw.hTake 1 rfl rfl (by kernel_rfl) (by kernel_rfl) (by kernel_rfl) (Fw.yV (Fw.val_move rfl)) rfl ?_
    refine Fw.hTake 3 rfl rfl (by kernel_rfl) (by kernel_rfl) (by kernel_rfl) (Fw.yV (Fw.val_fieldAddr fl43_1 rfl rfl)) rfl ?_
    refine Fw.hTake 4 rfl rfl (by kernel_rfl) (by kernel_rfl) (by kernel_rfl) (Fw.yV (Fw.hLd sc3 rfl (R_Hx.cell 1))) rfl ?_
    refine Fw.hTake 5 rfl rfl (by kernel_rfl) (by kernel_rfl) (by kernel_rfl) (Fw.yV (Fw.val_fieldAddr fl43_2 rfl rfl)) rfl ?_
    refine Fw.hTake 6 rfl rfl (by kernel_rfl) (by kernel_rfl) (by kernel_rfl) (Fw.yV (Fw.hLd sc3 rfl (R_Hx.cell 2))) rfl ?_
    refine Fw.hAll1 2 (by kernel_rfl) ?_
    refine Fw.hOp 2 rfl ?_
    refine Fw.call cf16 rfl rfl (longs_any _ A ts c (h.low HB) (by omega)) ?_
    rintro e_ w6 ⟨AL, cL, rfl, HL, hb⟩
    refine ⟨_, rfl, ?_⟩
    replace Hn := Hn.low hb
    replace Hx := Hx.low hb
    replace HG := HG.low hb
    replace HS := HS.trans (hb.mono HS.size)
    replace HB := HB.trans (hb.mono HB.size)
    clear hb
    refine Fw.hNext HS ?_
    refine Fw.hAll1 7 (by kernel_rfl) ?_
    refine Fw.hOp 7 rfl ?_
    refine Fw.call cf19 rfl rfl (path_any _ g N E HG hn.ok (by omega) (by omega) AL ts cL (Rd.of_own HL) a b ha hb_ D hD) ?_
    rintro e_ w7 ⟨AP, cP, l, rfl, HP, hl1, hl2, hb⟩
    refine ⟨_, rfl, ?_⟩
    replace Hn := Hn.low hb
    replace Hx := Hx.low hb
    replace HG := HG.low hb
    replace HS := HS.trans (hb.mono HS.size)
    replace HL := own_below HL hb (Nat.le_refl _)
    replace HB := HB.trans (hb.mono HB.size)
    clear hb
    obtain rfl := hl1 hq
    clear HP hl1 hl2
    rw [if_pos hq, decide_eq_false (fun h_ => h_ hq)]
    refine Fw.hNext HS ?_
    refine Fw.hTake 8 rfl rfl (by kernel_rfl) (by kernel_rfl) (by kernel_rfl) (Fw.yV (Fw.val_move rfl)) rfl ?_
    refine Fw.hTake 9 rfl rfl (by kernel_rfl) (by kernel_rfl) (by kernel_rfl) (Fw.yV (Fw.val_extract rfl rfl)) rfl ?_
    refine Fw.hTake 10 rfl rfl (by kernel_rfl) (by kernel_rfl) (by kernel_rfl) (Fw.yV (Fw.val_extract rfl rfl)) rfl ?_
    refine Fw.hTake 11 rfl rfl (by kernel_rfl) (by kernel_rfl) (by kernel_rfl) (Fw.yV (Fw.val_extract rfl rfl)) rfl ?_
    refine Fw.hTake 12 rfl rfl (by kernel_rfl) (by kernel_rfl) (by kernel_rfl) (Fw.yV (Fw.val_assign rfl)) rfl ?_
    refine Fw.hTake 13 rfl rfl (by kernel_rfl) (by kernel_rfl) (by kernel_rfl) (Fw.yV (Fw.val_assign rfl)) rfl ?_
    refine Fw.hTake 14 rfl rfl (by kernel_rfl) (by kernel_rfl) (by kernel_rfl) (Fw.yV (Fw.val_assign rfl)) rfl ?_
    refine Fw.hDone (by kernel_rfl) ?_
    refine hK5 _ _ (Fw.FC.sub (f' := [(10, _), (9, _), (8, _), (7, _), (5, _), (1, _)]) (.cons rfl (.cons rfl (.cons rfl (.cons rfl (.cons rfl (.cons rfl .nil)))))) ?_)
    refine Fw.seq fun _ hK6 => ?_
    refine Fw.seq fun _ hK7 => ?_
    refine Fw.region ?_
    refine Fw.s (Fw.val_move rfl) rfl ?_
    refine Fw.nil ?_
    refine hK7 _ _ ?_
    refine Fw.condF rfl ?_
    refine Fw.skip ?_
    refine hK6 _ _ ?_
    refine Fw.seq fun _ hK8 => ?_
    refine Fw.regionH (by kernel_rfl) ?_
    have R_Hn := Hn
    have R_Hx := Hx
    have R_HB := HB
    intro w8 hb
    have HS := hb
    replace Hn := Hn.low hb
    replace Hx := Hx.low hb
    replace HG := HG.low hb
    replace HL := own_below HL hb (Nat.le_refl _)
    replace HB := HB.trans (hb.mono HB.size)
    clear hb
    refine Fw.hTake 0 rfl rfl (by kernel_rfl) (by kernel_rfl) (by kernel_rfl) (Fw.yV (Fw.val_move rfl)) rfl ?_
    refine Fw.hTake 1 rfl rfl (by kernel_rfl) (by kernel_rfl) (by kernel_rfl) (Fw.yV (Fw.val_move rfl)) rfl ?_
    refine Fw.hTake 3 rfl rfl (by kernel_rfl) (by kernel_rfl) (by kernel_rfl) (Fw.yV (Fw.val_fieldAddr fl43_0 rfl rfl)) rfl ?_
    refine Fw.hTake 4 rfl rfl (by kernel_rfl) (by kernel_rfl) (by kernel_rfl) (Fw.yV (Fw.hLd sc26 rfl (R_Hx.cell 0))) rfl ?_
    refine Fw.hTake 6 rfl rfl (by kernel_rfl) (by kernel_rfl) (by kernel_rfl) (Fw.yV (Fw.val_fieldAddr fl43_1 rfl rfl)) rfl ?_
    refine Fw.hTake 7 rfl rfl (by kernel_rfl) (by kernel_rfl) (by kernel_rfl) (Fw.yV (Fw.hLd sc3 rfl (R_Hx.cell 1))) rfl ?_
    refine Fw.hTake 8 rfl rfl (by kernel_rfl) (by kernel_rfl) (by kernel_rfl) (Fw.yV (Fw.val_fieldAddr fl43_2 rfl rfl)) rfl ?_
    refine Fw.hTake 9 rfl rfl (by kernel_rfl) (by kernel_rfl) (by kernel_rfl) (Fw.yV (Fw.hLd sc3 rfl (R_Hx.cell 2))) rfl ?_
    refine Fw.hAll1 2 (by kernel_rfl) ?_
    refine Fw.hOp 2 rfl ?_
    refine Fw.call cf16 rfl rfl (longs_any _ A ts c (h.low HB) (by omega)) ?_
    rintro e_ w9 ⟨AL9, cL9, rfl, HL9, hb⟩
    refine ⟨_, rfl, ?_⟩
    replace Hn := Hn.low hb
    replace Hx := Hx.low hb
    replace HG := HG.low hb
    replace HL := own_below HL hb (Nat.le_refl _)
    replace HS := HS.trans (hb.mono HS.size)
    replace HB := HB.trans (hb.mono HB.size)
    clear hb
    refine Fw.hNext HS ?_
    refine Fw.hAll1 5 (by kernel_rfl) ?_
    refine Fw.hOp 5 rfl ?_
    refine Fw.call cf17 rfl rfl (ints_any _ Aw way cw (hw.low HB) (by omega)) ?_
    rintro e_ w10 ⟨AI9, cI9, rfl, HI9, hb⟩
    refine ⟨_, rfl, ?_⟩
    replace Hn := Hn.low hb
    replace Hx := Hx.low hb
    replace HG := HG.low hb
    replace HL := own_below HL hb (Nat.le_refl _)
    replace HS := HS.trans (hb.mono HS.size)
    replace HL9 := own_below HL9 hb (Nat.le_refl _)
    replace HB := HB.trans (hb.mono HB.size)
    clear hb
    refine Fw.hNext HS ?_
    refine Fw.hAll1 10 (by kernel_rfl) ?_
    refine Fw.hOp 10 rfl ?_
    refine Fw.call cf21 rfl rfl (pathTime_any _ g N E HG (by omega) AL9 ts cL9 (Rd.of_own HL9) AI9 way cI9 (by omega) (Rd.of_own HI9) (a : Int) (b : Int)) ?_
    rintro e_ w11 ⟨rfl, hb⟩
    refine ⟨_, rfl, ?_⟩
    replace Hn := Hn.low hb
    replace Hx := Hx.low hb
    replace HG := HG.low hb
    replace HL := own_below HL hb (Nat.le_refl _)
    replace HS := HS.trans (hb.mono HS.size)
    replace HL9 := own_below HL9 hb (Nat.le_refl _)
    replace HI9 := own_below HI9 hb (Nat.le_refl _)
    replace HB := HB.trans (hb.mono HB.size)
    clear hb
    refine Fw.hNext HS ?_
    refine Fw.hTake 11 rfl rfl (by kernel_rfl) (by kernel_rfl) (by kernel_rfl) (Fw.yV (Fw.val_move rfl)) rfl ?_
    refine Fw.hTake 12 rfl rfl (by kernel_rfl) (by kernel_rfl) (by kernel_rfl) (Fw.yV (Fw.val_extract rfl rfl)) rfl ?_
    refine Fw.hTake 13 rfl rfl (by kernel_rfl) (by kernel_rfl) (by kernel_rfl) (Fw.yV (Fw.val_extract rfl rfl)) rfl ?_
    refine Fw.hTake 14 rfl rfl (by kernel_rfl) (by kernel_rfl) (by kernel_rfl) (Fw.yV (Fw.val_assign rfl)) rfl ?_
    refine Fw.hTake 15 rfl rfl (by kernel_rfl) (by kernel_rfl) (by kernel_rfl) (Fw.yV (Fw.val_assign rfl)) rfl ?_
    refine Fw.hDone (by kernel_rfl) ?_
    refine hK8 _ _ (Fw.FC.sub (f' := [(14, _), (13, _), (10, _), (9, _), (8, _), (5, _)]) (.cons rfl (.cons rfl (.cons rfl (.cons rfl (.cons rfl (.cons rfl .nil)))))) ?_)
    refine Fw.seq fun _ hK9 => ?_
    refine Fw.region ?_
    refine Fw.s (Fw.val_move rfl) rfl ?_
    refine Fw.s (Fw.Val.T (Fw.val_bin rfl rfl Fw.b_neq) (by exact fun h_ => (Rg.min_ok hn.ok (by omega) hb_ hD ha (by omega) h_).1 hq)) rfl ?_
    refine Fw.s (Fw.val_move rfl) rfl ?_
    refine Fw.gF (d := 80) rfl rfl rfl rfl ?_
    refine Fw.gF (d := 80) rfl rfl rfl rfl ?_
    refine Fw.gU (d := 82) rfl rfl rfl ?_
    refine Fw.gU (d := 82) rfl rfl rfl ?_
    refine Fw.gU (d := 82) rfl rfl rfl ?_
    refine Fw.gF (d := 80) rfl rfl rfl rfl ?_
    refine Fw.gF (d := 80) rfl rfl rfl rfl ?_
    refine Fw.gU (d := 87) rfl rfl rfl ?_
    refine Fw.gU (d := 87) rfl rfl rfl ?_
    refine Fw.gU (d := 87) rfl rfl rfl ?_
    refine Fw.gU (d := 87) rfl rfl rfl ?_
    refine Fw.gU (d := 91) rfl rfl rfl ?_
    refine Fw.gU (d := 91) rfl rfl rfl ?_
    refine Fw.gU (d := 91) rfl rfl rfl ?_
    refine Fw.gU (d := 91) rfl rfl rfl ?_
    refine Fw.gU (d := 91) rfl rfl rfl ?_
    refine Fw.gU (d := 91) rfl rfl rfl ?_
    refine Fw.gU (d := 87) rfl rfl rfl ?_
    refine Fw.gF (d := 80) rfl rfl rfl rfl ?_
    refine Fw.s (Fw.val_pickT rfl rfl) rfl ?_
    refine Fw.s (Fw.val_assign rfl) rfl ?_
    refine Fw.nil ?_
    refine hK9 _ _ (Fw.FC.sub (f' := [(6, _)]) (.cons rfl .nil) ?_)
    refine Fw.ret ?_
    refine Fw.ret_ [.tmp 6] [_] Try.results8 (.tmp rfl .nil) ?_
    exact ⟨rfl, HB⟩
  · rintro hf
    refine Fw.gT (d := 23) rfl rfl ?_
    refine Fw.s (Fw.val_not rfl) rfl ?_
    refine Fw.s (Fw.val_pickF rfl rfl) rfl ?_
    refine Fw.nil ?_
    refine hK4 _ _ (Fw.FC.sub (f' := [(29, _), (7, _), (5, _), (1, _)]) (.cons rfl (.cons rfl (.cons rfl (.cons rfl .nil)))) ?_)
    refine Fw.condT rfl ?_
    refine Fw.seq fun _ hK10 => ?_
    refine Fw.region ?_
    refine Fw.call cf12 rfl rfl (lawake_any _) ?_
    rintro e_ w12 ⟨rfl, hb⟩
    refine ⟨_, rfl, ?_⟩
    replace Hn := Hn.low hb
    replace Hx := Hx.low hb
    replace HG := HG.low hb
    replace HB := HB.trans (hb.mono HB.size)
    clear hb
    refine Fw.s (Fw.val_assign rfl) rfl ?_
    refine Fw.nil ?_
    refine hK10 _ _ ?_
    refine Fw.ret ?_
    refine Fw.X_ret ?_
    refine Fw.ret_ [.tmp 6] [_] Try.results8 (.tmp rfl .nil) ?_
    exact ⟨rfl, HB⟩

set_option maxRecDepth 100000 in
set_option maxHeartbeats 1000000 in
theorem lmin_in1 (w : World) (N : Nat) (E : List Rg.Ed) (Ae : Option Addr) (ce : Nat) (hE : Rd w Ae (E.flatMap Rg.Ed.cells)) (hn : Rg.Net N E) (A : Option Addr) (ts : List Int) (c : Nat) (h : Rd w A (ts.map (.int .i64))) (Aw : Option Addr) (way : List Int) (cw : Nat) (hw : Rd w Aw (way.map (.int .i64))) (a b : Nat) (ha : a < N) (hb_ : b < N) (D : Nat → Int) (hD : Sp.IsDist (Sp.star (Rg.arcT N E ts false)) 8589934593 (· = b) D) (hq : D a ≠ Sp.INF) : Calls Try.prog 8 #[.agg #[.int .i64 (N : Int), .slice Ae E.length ce], .slice A ts.length c, .agg #[.slice Aw way.length cw, .int .i64 (a : Int), .int .i64 (b : Int)]] w fun e_ w' => e_ = .returned (.bool true) ∧ Below w.heap.size w w' := by
  have hn1 := hn.n
  have hn2 := hn.e
  refine Fw.calls Try.func8 rfl Try.ntmps8 rfl ?_
  have HB := Below.refl (w.heap.size) w
  refine Fw.seq fun _ hK1 => ?_
  refine Fw.region ?_
  refine Fw.box rfl rfl ?_
  intro w1 gn egn Hn hb
  have lgn : w.heap.size ≤ gn := by have := HB.size; omega
  replace HB := HB.trans (hb.mono HB.size)
  clear hb
  clear egn
  refine Fw.box rfl rfl ?_
  intro w2 gx egx Hx hb
  have n_gn_gx : gn < gx := by have := Hn.lt; omega
  have lgx : w.heap.size ≤ gx := by have := HB.size; omega
  replace Hn := Hn.low hb
  replace HB := HB.trans (hb.mono HB.size)
  clear hb
  clear egx
  refine Fw.s (Fw.val_assign rfl) rfl ?_
  refine Fw.nil ?_
  refine hK1 _ _ ?_
  refine Fw.seq fun _ hK2 => ?_
  refine Fw.region ?_
  refine Fw.ldA ag24 rfl (Fw.rdBlk Hn) rfl rfl ?_
  refine Fw.call cf11 rfl rfl (net_any _ N E Ae ce (hE.low HB) hn) ?_
  rintro e_ w3 ⟨g, rfl, HG, hb⟩
  refine ⟨_, rfl, ?_⟩
  replace Hn := Hn.low hb
  replace Hx := Hx.low hb
  replace HB := HB.trans (hb.mono HB.size)
  clear hb
  refine Fw.s (Fw.val_assign rfl) rfl ?_
  refine Fw.nil ?_
  refine hK2 _ _ ?_
  refine Fw.seq fun _ hK3 => ?_
  refine Fw.seq fun _ hK4 => ?_
  refine Fw.region ?_
  refine Fw.call cf12 rfl rfl (lawake_any _) ?_
  rintro e_ w4 ⟨rfl, hb⟩
  refine ⟨_, rfl, ?_⟩
  replace Hn := Hn.low hb
  replace Hx := Hx.low hb
  replace HG := HG.low hb
  replace HB := HB.trans (hb.mono HB.size)
  clear hb
  refine Fw.s (Fw.val_not rfl) rfl ?_
  refine Fw.s (Fw.val_move rfl) rfl ?_
  refine Fw.gT (d := 19) rfl rfl ?_
  refine Fw.s (Fw.val_move rfl) rfl ?_
  refine Fw.gT (d := 19) rfl rfl ?_
  refine Fw.s (Fw.val_bin rfl rfl (Fw.b_nilP Try.underlying27)) rfl ?_
  refine Fw.s (Fw.val_pickF rfl rfl) rfl ?_
  refine Fw.s (Fw.val_move rfl) rfl ?_
  refine Fw.gT (d := 23) rfl rfl ?_
  refine Fw.s (Fw.val_move rfl) rfl ?_
  refine Fw.gT (d := 23) rfl rfl ?_
  refine Fw.s (Fw.val_fieldAddr fl43_0 rfl rfl) rfl ?_
  refine Fw.gT (d := 23) rfl rfl ?_
  refine Fw.ld sc26 rfl (Hx.cell 0) rfl ?_
  refine Fw.gT (d := 23) rfl rfl ?_
  refine Fw.call cf13 rfl rfl (lfew_any _ A ts.length c Aw way.length cw) ?_
  rintro e_ _ ⟨rfl, rfl⟩
  refine ⟨_, rfl, ?_⟩
  refine Fw.b2 ?_ ?_
  · rintro hf
    refine Fw.gT (d := 23) rfl rfl ?_
    refine Fw.s (Fw.val_not rfl) rfl ?_
    refine Fw.s (Fw.val_pickF rfl rfl) rfl ?_
    refine Fw.nil ?_
    refine hK4 _ _ (Fw.FC.sub (f' := [(29, _), (7, _), (5, _), (1, _)]) (.cons rfl (.cons rfl (.cons rfl (.cons rfl .nil)))) ?_)
    refine Fw.condF rfl ?_
    refine Fw.skip ?_
    refine hK3 _ _ ?_
    refine Fw.seq fun _ hK5 => ?_
    have hf := of_decide_eq_true hf
    refine Fw.regionH (by kernel_rfl) ?_
    have R_Hn := Hn
    have R_Hx := Hx
    have R_HB := HB
    intro w5 hb
    have HS := hb
    replace Hn := Hn.low hb
    replace Hx := Hx.low hb
    replace HG := HG.low hb
    replace HB := HB.trans (hb.mono HB.size)
    clear hb
    refine Fw.hTake 0 rfl rfl (by kernel_rfl) (by kernel_rfl) (by kernel_rfl) (Fw.yV (Fw.val_move rfl)) rfl ?_
    refine Fw.hTake 1 rfl rfl (by kernel_rfl) (by kernel_rfl) (by kernel_rfl) (Fw.yV (Fw.val_move rfl)) rfl ?_
    refine Fw.hTake 3 rfl rfl (by kernel_rfl) (by kernel_rfl) (by kernel_rfl) (Fw.yV (Fw.val_fieldAddr fl43_1 rfl rfl)) rfl ?_
    refine Fw.hTake 4 rfl rfl (by kernel_rfl) (by kernel_rfl) (by kernel_rfl) (Fw.yV (Fw.hLd sc3 rfl (R_Hx.cell 1))) rfl ?_
    refine Fw.hTake 5 rfl rfl (by kernel_rfl) (by kernel_rfl) (by kernel_rfl) (Fw.yV (Fw.val_fieldAddr fl43_2 rfl rfl)) rfl ?_
    refine Fw.hTake 6 rfl rfl (by kernel_rfl) (by kernel_rfl) (by kernel_rfl) (Fw.yV (Fw.hLd sc3 rfl (R_Hx.cell 2))) rfl ?_
    refine Fw.hAll1 2 (by kernel_rfl) ?_
    refine Fw.hOp 2 rfl ?_
    refine Fw.call cf16 rfl rfl (longs_any _ A ts c (h.low HB) (by omega)) ?_
    rintro e_ w6 ⟨AL, cL, rfl, HL, hb⟩
    refine ⟨_, rfl, ?_⟩
    replace Hn := Hn.low hb
    replace Hx := Hx.low hb
    replace HG := HG.low hb
    replace HS := HS.trans (hb.mono HS.size)
    replace HB := HB.trans (hb.mono HB.size)
    clear hb
    refine Fw.hNext HS ?_
    refine Fw.hAll1 7 (by kernel_rfl) ?_
    refine Fw.hOp 7 rfl ?_
    refine Fw.call cf19 rfl rfl (path_any _ g N E HG hn.ok (by omega) (by omega) AL ts cL (Rd.of_own HL) a b ha hb_ D hD) ?_
    rintro e_ w7 ⟨AP, cP, l, rfl, HP, hl1, hl2, hb⟩
    refine ⟨_, rfl, ?_⟩
    replace Hn := Hn.low hb
    replace Hx := Hx.low hb
    replace HG := HG.low hb
    replace HS := HS.trans (hb.mono HS.size)
    replace HL := own_below HL hb (Nat.le_refl _)
    replace HB := HB.trans (hb.mono HB.size)
    clear hb
    have htr := hl2 hq
    clear hl1 hl2
    rw [if_neg hq, decide_eq_true hq]
    have hll : l.length ≤ 12 := by
      have h1 := (htr.sum (Rg.arcT_ok ts false hn.ok) Rg.h8_ (by show N ≤ 4096; omega) hb_ hD ha hq).2
      have h2 := (Sp.dig (A := Rg.arcT N E ts false) (Rg.arcT_ok ts false hn.ok) Rg.h8_ (by show N ≤ 4096; omega) hb_ hD ha hq).2.2.2.1
      have h2 : Sp.fOf D a < (N : Int) := h2
      omega
    refine Fw.hNext HS ?_
    refine Fw.hTake 8 rfl rfl (by kernel_rfl) (by kernel_rfl) (by kernel_rfl) (Fw.yV (Fw.val_move rfl)) rfl ?_
    refine Fw.hTake 9 rfl rfl (by kernel_rfl) (by kernel_rfl) (by kernel_rfl) (Fw.yV (Fw.val_extract rfl rfl)) rfl ?_
    refine Fw.hTake 10 rfl rfl (by kernel_rfl) (by kernel_rfl) (by kernel_rfl) (Fw.yV (Fw.val_extract rfl rfl)) rfl ?_
    refine Fw.hTake 11 rfl rfl (by kernel_rfl) (by kernel_rfl) (by kernel_rfl) (Fw.yV (Fw.val_extract rfl rfl)) rfl ?_
    refine Fw.hTake 12 rfl rfl (by kernel_rfl) (by kernel_rfl) (by kernel_rfl) (Fw.yV (Fw.val_assign rfl)) rfl ?_
    refine Fw.hTake 13 rfl rfl (by kernel_rfl) (by kernel_rfl) (by kernel_rfl) (Fw.yV (Fw.val_assign rfl)) rfl ?_
    refine Fw.hTake 14 rfl rfl (by kernel_rfl) (by kernel_rfl) (by kernel_rfl) (Fw.yV (Fw.val_assign rfl)) rfl ?_
    refine Fw.hDone (by kernel_rfl) ?_
    refine hK5 _ _ (Fw.FC.sub (f' := [(10, _), (9, _), (8, _), (7, _), (5, _), (1, _)]) (.cons rfl (.cons rfl (.cons rfl (.cons rfl (.cons rfl (.cons rfl .nil)))))) ?_)
    refine Fw.seq fun _ hK6 => ?_
    refine Fw.seq fun _ hK7 => ?_
    refine Fw.region ?_
    refine Fw.s (Fw.val_move rfl) rfl ?_
    refine Fw.nil ?_
    refine hK7 _ _ ?_
    refine Fw.condT rfl ?_
    refine Fw.seq fun _ hK8 => ?_
    refine Fw.regionH (by kernel_rfl) ?_
    have R_Hn := Hn
    have R_Hx := Hx
    have R_HB := HB
    intro w8 hb
    have HS := hb
    replace Hn := Hn.low hb
    replace Hx := Hx.low hb
    replace HG := HG.low hb
    replace HL := own_below HL hb (Nat.le_refl _)
    replace HP := own_below HP hb (Nat.le_refl _)
    replace HB := HB.trans (hb.mono HB.size)
    clear hb
    refine Fw.hTake 0 rfl rfl (by kernel_rfl) (by kernel_rfl) (by kernel_rfl) (Fw.yV (Fw.val_move rfl)) rfl ?_
    refine Fw.hTake 1 rfl rfl (by kernel_rfl) (by kernel_rfl) (by kernel_rfl) (Fw.yV (Fw.val_move rfl)) rfl ?_
    refine Fw.hTake 3 rfl rfl (by kernel_rfl) (by kernel_rfl) (by kernel_rfl) (Fw.yV (Fw.val_move rfl)) rfl ?_
    refine Fw.hTake 5 rfl rfl (by kernel_rfl) (by kernel_rfl) (by kernel_rfl) (Fw.yV (Fw.val_fieldAddr fl43_1 rfl rfl)) rfl ?_
    refine Fw.hTake 6 rfl rfl (by kernel_rfl) (by kernel_rfl) (by kernel_rfl) (Fw.yV (Fw.hLd sc3 rfl (R_Hx.cell 1))) rfl ?_
    refine Fw.hTake 7 rfl rfl (by kernel_rfl) (by kernel_rfl) (by kernel_rfl) (Fw.yV (Fw.val_fieldAddr fl43_2 rfl rfl)) rfl ?_
    refine Fw.hTake 8 rfl rfl (by kernel_rfl) (by kernel_rfl) (by kernel_rfl) (Fw.yV (Fw.hLd sc3 rfl (R_Hx.cell 2))) rfl ?_
    refine Fw.hAll1 2 (by kernel_rfl) ?_
    refine Fw.hOp 2 rfl ?_
    refine Fw.call cf16 rfl rfl (longs_any _ A ts c (h.low HB) (by omega)) ?_
    rintro e_ w9 ⟨AL6, cL6, rfl, HL6, hb⟩
    refine ⟨_, rfl, ?_⟩
    replace Hn := Hn.low hb
    replace Hx := Hx.low hb
    replace HG := HG.low hb
    replace HL := own_below HL hb (Nat.le_refl _)
    replace HP := own_below HP hb (Nat.le_refl _)
    replace HS := HS.trans (hb.mono HS.size)
    replace HB := HB.trans (hb.mono HB.size)
    clear hb
    refine Fw.hNext HS ?_
    refine Fw.hAll1 4 (by kernel_rfl) ?_
    refine Fw.hOp 4 rfl ?_
    refine Fw.call cf17 rfl rfl (intsN_any _ AP l cP (Rd.of_own HP) (by omega)) ?_
    rintro e_ w10 ⟨AI6, cI6, rfl, HI6, hb⟩
    refine ⟨_, rfl, ?_⟩
    replace Hn := Hn.low hb
    replace Hx := Hx.low hb
    replace HG := HG.low hb
    replace HL := own_below HL hb (Nat.le_refl _)
    replace HP := own_below HP hb (Nat.le_refl _)
    replace HS := HS.trans (hb.mono HS.size)
    replace HL6 := own_below HL6 hb (Nat.le_refl _)
    replace HB := HB.trans (hb.mono HB.size)
    clear hb
    refine Fw.hNext HS ?_
    refine Fw.hAll1 9 (by kernel_rfl) ?_
    refine Fw.hOp 9 rfl ?_
    refine Fw.call cf21 rfl rfl (pathTimeN_any _ g N E HG (by omega) AL6 ts cL6 (Rd.of_own HL6) AI6 l cI6 (by omega) (Rd.of_own HI6) (a : Int) (b : Int)) ?_
    rintro e_ w11 ⟨rfl, hb⟩
    refine ⟨_, rfl, ?_⟩
    replace Hn := Hn.low hb
    replace Hx := Hx.low hb
    replace HG := HG.low hb
    replace HL := own_below HL hb (Nat.le_refl _)
    replace HP := own_below HP hb (Nat.le_refl _)
    replace HS := HS.trans (hb.mono HS.size)
    replace HL6 := own_below HL6 hb (Nat.le_refl _)
    replace HI6 := own_below HI6 hb (Nat.le_refl _)
    replace HB := HB.trans (hb.mono HB.size)
    clear hb
    rw [Rg.min_time hn.ok (by omega) hb_ hD htr ha hq]
    refine Fw.hNext HS ?_
    refine Fw.hTake 10 rfl rfl (by kernel_rfl) (by kernel_rfl) (by kernel_rfl) (Fw.yV (Fw.val_move rfl)) rfl ?_
    refine Fw.hTake 11 rfl rfl (by kernel_rfl) (by kernel_rfl) (by kernel_rfl) (Fw.yV (Fw.val_extract rfl rfl)) rfl ?_
    refine Fw.hTake 12 rfl rfl (by kernel_rfl) (by kernel_rfl) (by kernel_rfl) (Fw.yV (Fw.val_extract rfl rfl)) rfl ?_
    refine Fw.hTake 13 rfl rfl (by kernel_rfl) (by kernel_rfl) (by kernel_rfl) (Fw.yV (Fw.val_assign rfl)) rfl ?_
    refine Fw.hTake 14 rfl rfl (by kernel_rfl) (by kernel_rfl) (by kernel_rfl) (Fw.yV (Fw.val_assign rfl)) rfl ?_
    refine Fw.hDone (by kernel_rfl) ?_
    refine hK8 _ _ (Fw.FC.sub (f' := [(12, _), (11, _), (10, _), (9, _), (8, _), (7, _), (5, _), (1, _)]) (.cons rfl (.cons rfl (.cons rfl (.cons rfl (.cons rfl (.cons rfl (.cons rfl (.cons rfl .nil)))))))) ?_)
    refine Fw.seq fun _ hK9 => ?_
    refine Fw.region ?_
    refine Fw.s (Fw.val_move rfl) rfl ?_
    refine Fw.s (Fw.val_move rfl) rfl ?_
    refine Fw.s (Fw.Val.F (Fw.val_bin rfl rfl Fw.b_neq) (by exact fun h_ => h_ rfl)) rfl ?_
    refine Fw.s (Fw.val_move rfl) rfl ?_
    refine Fw.gT (d := 60) rfl rfl ?_
    refine Fw.s (Fw.val_move rfl) rfl ?_
    refine Fw.gT (d := 60) rfl rfl ?_
    refine Fw.s (Fw.Val.F (Fw.val_bin rfl rfl Fw.b_neq) (by exact fun h_ => h_ rfl)) rfl ?_
    refine Fw.s (Fw.val_pickF rfl rfl) rfl ?_
    refine Fw.nil ?_
    refine hK9 _ _ (Fw.FC.sub (f' := [(63, _), (10, _), (9, _), (8, _), (7, _), (5, _), (1, _)]) (.cons rfl (.cons rfl (.cons rfl (.cons rfl (.cons rfl (.cons rfl (.cons rfl .nil))))))) ?_)
    refine Fw.condF rfl ?_
    refine Fw.skip ?_
    refine hK6 _ _ ?_
    refine Fw.seq fun _ hK10 => ?_
    refine Fw.regionH (by kernel_rfl) ?_
    have R_Hn := Hn
    have R_Hx := Hx
    have R_HB := HB
    intro w12 hb
    have HS := hb
    replace Hn := Hn.low hb
    replace Hx := Hx.low hb
    replace HG := HG.low hb
    replace HL := own_below HL hb (Nat.le_refl _)
    replace HP := own_below HP hb (Nat.le_refl _)
    replace HL6 := own_below HL6 hb (Nat.le_refl _)
    replace HI6 := own_below HI6 hb (Nat.le_refl _)
    replace HB := HB.trans (hb.mono HB.size)
    clear hb
    refine Fw.hTake 0 rfl rfl (by kernel_rfl) (by kernel_rfl) (by kernel_rfl) (Fw.yV (Fw.val_move rfl)) rfl ?_
    refine Fw.hTake 1 rfl rfl (by kernel_rfl) (by kernel_rfl) (by kernel_rfl) (Fw.yV (Fw.val_move rfl)) rfl ?_
    refine Fw.hTake 3 rfl rfl (by kernel_rfl) (by kernel_rfl) (by kernel_rfl) (Fw.yV (Fw.val_fieldAddr fl43_0 rfl rfl)) rfl ?_
    refine Fw.hTake 4 rfl rfl (by kernel_rfl) (by kernel_rfl) (by kernel_rfl) (Fw.yV (Fw.hLd sc26 rfl (R_Hx.cell 0))) rfl ?_
    refine Fw.hTake 6 rfl rfl (by kernel_rfl) (by kernel_rfl) (by kernel_rfl) (Fw.yV (Fw.val_fieldAddr fl43_1 rfl rfl)) rfl ?_
    refine Fw.hTake 7 rfl rfl (by kernel_rfl) (by kernel_rfl) (by kernel_rfl) (Fw.yV (Fw.hLd sc3 rfl (R_Hx.cell 1))) rfl ?_
    refine Fw.hTake 8 rfl rfl (by kernel_rfl) (by kernel_rfl) (by kernel_rfl) (Fw.yV (Fw.val_fieldAddr fl43_2 rfl rfl)) rfl ?_
    refine Fw.hTake 9 rfl rfl (by kernel_rfl) (by kernel_rfl) (by kernel_rfl) (Fw.yV (Fw.hLd sc3 rfl (R_Hx.cell 2))) rfl ?_
    refine Fw.hAll1 2 (by kernel_rfl) ?_
    refine Fw.hOp 2 rfl ?_
    refine Fw.call cf16 rfl rfl (longs_any _ A ts c (h.low HB) (by omega)) ?_
    rintro e_ w13 ⟨AL9, cL9, rfl, HL9, hb⟩
    refine ⟨_, rfl, ?_⟩
    replace Hn := Hn.low hb
    replace Hx := Hx.low hb
    replace HG := HG.low hb
    replace HL := own_below HL hb (Nat.le_refl _)
    replace HP := own_below HP hb (Nat.le_refl _)
    replace HL6 := own_below HL6 hb (Nat.le_refl _)
    replace HI6 := own_below HI6 hb (Nat.le_refl _)
    replace HS := HS.trans (hb.mono HS.size)
    replace HB := HB.trans (hb.mono HB.size)
    clear hb
    refine Fw.hNext HS ?_
    refine Fw.hAll1 5 (by kernel_rfl) ?_
    refine Fw.hOp 5 rfl ?_
    refine Fw.call cf17 rfl rfl (ints_any _ Aw way cw (hw.low HB) (by omega)) ?_
    rintro e_ w14 ⟨AI9, cI9, rfl, HI9, hb⟩
    refine ⟨_, rfl, ?_⟩
    replace Hn := Hn.low hb
    replace Hx := Hx.low hb
    replace HG := HG.low hb
    replace HL := own_below HL hb (Nat.le_refl _)
    replace HP := own_below HP hb (Nat.le_refl _)
    replace HL6 := own_below HL6 hb (Nat.le_refl _)
    replace HI6 := own_below HI6 hb (Nat.le_refl _)
    replace HS := HS.trans (hb.mono HS.size)
    replace HL9 := own_below HL9 hb (Nat.le_refl _)
    replace HB := HB.trans (hb.mono HB.size)
    clear hb
    refine Fw.hNext HS ?_
    refine Fw.hAll1 10 (by kernel_rfl) ?_
    refine Fw.hOp 10 rfl ?_
    refine Fw.call cf21 rfl rfl (pathTime_any _ g N E HG (by omega) AL9 ts cL9 (Rd.of_own HL9) AI9 way cI9 (by omega) (Rd.of_own HI9) (a : Int) (b : Int)) ?_
    rintro e_ w15 ⟨rfl, hb⟩
    refine ⟨_, rfl, ?_⟩
    replace Hn := Hn.low hb
    replace Hx := Hx.low hb
    replace HG := HG.low hb
    replace HL := own_below HL hb (Nat.le_refl _)
    replace HP := own_below HP hb (Nat.le_refl _)
    replace HL6 := own_below HL6 hb (Nat.le_refl _)
    replace HI6 := own_below HI6 hb (Nat.le_refl _)
    replace HS := HS.trans (hb.mono HS.size)
    replace HL9 := own_below HL9 hb (Nat.le_refl _)
    replace HI9 := own_below HI9 hb (Nat.le_refl _)
    replace HB := HB.trans (hb.mono HB.size)
    clear hb
    refine Fw.hNext HS ?_
    refine Fw.hTake 11 rfl rfl (by kernel_rfl) (by kernel_rfl) (by kernel_rfl) (Fw.yV (Fw.val_move rfl)) rfl ?_
    refine Fw.hTake 12 rfl rfl (by kernel_rfl) (by kernel_rfl) (by kernel_rfl) (Fw.yV (Fw.val_extract rfl rfl)) rfl ?_
    refine Fw.hTake 13 rfl rfl (by kernel_rfl) (by kernel_rfl) (by kernel_rfl) (Fw.yV (Fw.val_extract rfl rfl)) rfl ?_
    refine Fw.hTake 14 rfl rfl (by kernel_rfl) (by kernel_rfl) (by kernel_rfl) (Fw.yV (Fw.val_assign rfl)) rfl ?_
    refine Fw.hTake 15 rfl rfl (by kernel_rfl) (by kernel_rfl) (by kernel_rfl) (Fw.yV (Fw.val_assign rfl)) rfl ?_
    refine Fw.hDone (by kernel_rfl) ?_
    refine hK10 _ _ (Fw.FC.sub (f' := [(14, _), (13, _), (10, _), (9, _), (8, _), (5, _)]) (.cons rfl (.cons rfl (.cons rfl (.cons rfl (.cons rfl (.cons rfl .nil)))))) ?_)
    refine Fw.seq fun _ hK11 => ?_
    refine Fw.region ?_
    refine Fw.s (Fw.val_move rfl) rfl ?_
    refine Fw.s2 (Fw.val_bin rfl rfl Fw.b_neq) rfl ?_ ?_
    · rintro hne
      refine Fw.s (Fw.val_move rfl) rfl ?_
      refine Fw.gF (d := 80) rfl rfl rfl rfl ?_
      refine Fw.gF (d := 80) rfl rfl rfl rfl ?_
      refine Fw.gU (d := 82) rfl rfl rfl ?_
      refine Fw.gU (d := 82) rfl rfl rfl ?_
      refine Fw.gU (d := 82) rfl rfl rfl ?_
      refine Fw.gF (d := 80) rfl rfl rfl rfl ?_
      refine Fw.gF (d := 80) rfl rfl rfl rfl ?_
      refine Fw.gU (d := 87) rfl rfl rfl ?_
      refine Fw.gU (d := 87) rfl rfl rfl ?_
      refine Fw.gU (d := 87) rfl rfl rfl ?_
      refine Fw.gU (d := 87) rfl rfl rfl ?_
      refine Fw.gU (d := 91) rfl rfl rfl ?_
      refine Fw.gU (d := 91) rfl rfl rfl ?_
      refine Fw.gU (d := 91) rfl rfl rfl ?_
      refine Fw.gU (d := 91) rfl rfl rfl ?_
      refine Fw.gU (d := 91) rfl rfl rfl ?_
      refine Fw.gU (d := 91) rfl rfl rfl ?_
      refine Fw.gU (d := 87) rfl rfl rfl ?_
      refine Fw.gF (d := 80) rfl rfl rfl rfl ?_
      refine Fw.s (Fw.val_pickT rfl rfl) rfl ?_
      refine Fw.s (Fw.val_assign rfl) rfl ?_
      refine Fw.nil ?_
      refine hK11 _ _ (Fw.FC.sub (f' := [(6, _)]) (.cons rfl .nil) ?_)
      refine Fw.ret ?_
      refine Fw.ret_ [.tmp 6] [_] Try.results8 (.tmp rfl .nil) ?_
      exact ⟨rfl, HB⟩
    · rintro hne
      refine Fw.s (Fw.val_move rfl) rfl ?_
      have hmo := Rg.min_ok hn.ok (by omega) hb_ hD ha (by omega) (by omega : (Rg.ptime N E ts way (a : Int) (b : Int)).2 = 0)
      refine Fw.gT (d := 80) rfl rfl ?_
      refine Fw.s (Fw.val_move rfl) rfl ?_
      refine Fw.gT (d := 80) rfl rfl ?_
      refine Fw.s (Fw.val_move rfl) rfl ?_
      refine Fw.gT (d := 82) rfl rfl ?_
      refine Fw.s (Fw.val_move rfl) rfl ?_
      refine Fw.gT (d := 82) rfl rfl ?_
      refine Fw.s (Fw.val_move rfl) rfl ?_
      refine Fw.gT (d := 82) rfl rfl ?_
      refine Fw.s (Fw.Val.T (Fw.val_bin rfl rfl Fw.b_leq) (by exact hmo.2.1)) rfl ?_
      refine Fw.gT (d := 80) rfl rfl ?_
      refine Fw.s (Fw.val_pickT rfl rfl) rfl ?_
      refine Fw.gT (d := 80) rfl rfl ?_
      refine Fw.s (Fw.val_move rfl) rfl ?_
      refine Fw.gT (d := 87) rfl rfl ?_
      refine Fw.s (Fw.val_move rfl) rfl ?_
      refine Fw.gT (d := 87) rfl rfl ?_
      refine Fw.s (Fw.val_move rfl) rfl ?_
      refine Fw.gT (d := 87) rfl rfl ?_
      refine Fw.s2 (Fw.val_bin rfl rfl Fw.b_lss) rfl ?_ ?_
      · rintro hlt
        refine Fw.gT (d := 87) rfl rfl ?_
        refine Fw.s (Fw.val_move rfl) rfl ?_
        refine Fw.gF (d := 91) rfl rfl rfl rfl ?_
        refine Fw.gF (d := 91) rfl rfl rfl rfl ?_
        refine Fw.gF (d := 91) rfl rfl rfl rfl ?_
        refine Fw.gF (d := 91) rfl rfl rfl rfl ?_
        refine Fw.gF (d := 91) rfl rfl rfl rfl ?_
        refine Fw.gF (d := 91) rfl rfl rfl rfl ?_
        refine Fw.gT (d := 87) rfl rfl ?_
        refine Fw.s (Fw.val_pickT rfl rfl) rfl ?_
        refine Fw.gT (d := 80) rfl rfl ?_
        refine Fw.s (Fw.val_pickT rfl rfl) rfl ?_
        refine Fw.s (Fw.val_pickF rfl rfl) rfl ?_
        refine Fw.s (Fw.val_assign rfl) rfl ?_
        refine Fw.nil ?_
        refine hK11 _ _ (Fw.FC.sub (f' := [(6, _)]) (.cons rfl .nil) ?_)
        refine Fw.ret ?_
        refine Fw.ret_ [.tmp 6] [_] Try.results8 (.tmp rfl .nil) ?_
        exact ⟨rfl, HB⟩
      · rintro hlt
        refine Fw.gT (d := 87) rfl rfl ?_
        refine Fw.s (Fw.val_move rfl) rfl ?_
        refine Fw.gT (d := 91) rfl rfl ?_
        refine Fw.s (Fw.val_move rfl) rfl ?_
        refine Fw.gT (d := 91) rfl rfl ?_
        refine Fw.s (Fw.val_len Try.underlying26 rfl) rfl ?_
        refine Fw.gT (d := 91) rfl rfl ?_
        refine Fw.s (Fw.val_fieldAddr fl43_0 rfl rfl) rfl ?_
        refine Fw.gT (d := 91) rfl rfl ?_
        refine Fw.ld sc26 rfl (Hx.cell 0) rfl ?_
        refine Fw.gT (d := 91) rfl rfl ?_
        refine Fw.s (Fw.val_len Try.underlying26 rfl) rfl ?_
        refine Fw.gT (d := 91) rfl rfl ?_
        refine Fw.s (Fw.Val.T (Fw.val_bin rfl rfl Fw.b_leq) (by have := hmo.2.2 l htr; omega)) rfl ?_
        refine Fw.gT (d := 87) rfl rfl ?_
        refine Fw.s (Fw.val_pickF rfl rfl) rfl ?_
        refine Fw.gT (d := 80) rfl rfl ?_
        refine Fw.s (Fw.val_pickT rfl rfl) rfl ?_
        refine Fw.s (Fw.val_pickF rfl rfl) rfl ?_
        refine Fw.s (Fw.val_assign rfl) rfl ?_
        refine Fw.nil ?_
        refine hK11 _ _ (Fw.FC.sub (f' := [(6, _)]) (.cons rfl .nil) ?_)
        refine Fw.ret ?_
        refine Fw.ret_ [.tmp 6] [_] Try.results8 (.tmp rfl .nil) ?_
        exact ⟨rfl, HB⟩
  · rintro hf
    refine Fw.gT (d := 23) rfl rfl ?_
    refine Fw.s (Fw.val_not rfl) rfl ?_
    refine Fw.s (Fw.val_pickF rfl rfl) rfl ?_
    refine Fw.nil ?_
    refine hK4 _ _ (Fw.FC.sub (f' := [(29, _), (7, _), (5, _), (1, _)]) (.cons rfl (.cons rfl (.cons rfl (.cons rfl .nil)))) ?_)
    refine Fw.condT rfl ?_
    refine Fw.seq fun _ hK14 => ?_
    refine Fw.region ?_
    refine Fw.call cf12 rfl rfl (lawake_any _) ?_
    rintro e_ w16 ⟨rfl, hb⟩
    refine ⟨_, rfl, ?_⟩
    replace Hn := Hn.low hb
    replace Hx := Hx.low hb
    replace HG := HG.low hb
    replace HB := HB.trans (hb.mono HB.size)
    clear hb
    refine Fw.s (Fw.val_assign rfl) rfl ?_
    refine Fw.nil ?_
    refine hK14 _ _ ?_
    refine Fw.ret ?_
    refine Fw.X_ret ?_
    refine Fw.ret_ [.tmp 6] [_] Try.results8 (.tmp rfl .nil) ?_
    exact ⟨rfl, HB⟩

end Go.Proofs.Ytenljoccfjlncaa
