/- Append: which blocks turn. -/
import Derived.Test.YtgpdodhegacndaaKrJ
import Derived.Test.YtgpdodhegacndaaOw
namespace Go.Proofs.Ytgpdodhegacndaa
set_option linter.unusedSimpArgs false
set_option linter.unusedVariables false
open Go.RowKit

namespace Jr
/-- the blocks that a journal turns -/
def Own (w : World) (p pf : Nat) (g : Option Nat) (k : Nat) : Prop := k = p ∨ k = pf ∨ some k = g ∨ ∃ cs, Blk w p 62 cs ∧ ∃ v ∈ cs.toList, some k = v.ownBlock
theorem own_sub {w : World} {p pf n1 c1 n2 c2 : Nat} {g : Option Nat} {x : Value} {A1 A2 : Option Addr} (h : Blk w p 62 #[x, .slice A1 n1 c1, .slice A2 n2 c2]) : ∀ k, k < w.heap.size → (k = p ∨ k = pf ∨ some k = g ∨ some k = (Value.slice A1 n1 c1).ownBlock ∨ some k = (Value.slice A2 n2 c2).ownBlock) → Own w p pf g k := fun k _ e => by
  rcases e with e | e | e | e | e
  · exact .inl e
  · exact .inr (.inl e)
  · exact .inr (.inr (.inl e))
  · exact .inr (.inr (.inr ⟨_, h, _, by simp, e⟩))
  · exact .inr (.inr (.inr ⟨_, h, _, by simp, e⟩))
/-- w' owns of the old blocks what w owned; bodies that came are new -/
def Sub (w w' : World) (p pf : Nat) (g g' : Option Nat) (L L' : List Rv) : Prop := (∀ k, Own w' p pf g' k → Own w p pf g k ∨ w.heap.size ≤ k) ∧ ∀ v ∈ L', v ∈ L ∨ (v.b ≠ [] → ∀ ad, v.A = some ad → w.heap.size ≤ ad.block)
theorem sub_of {w w' : World} {p pf n1 c1 n2 c2 n1' c1' n2' c2' : Nat} {g g' : Option Nat} {q q' : Option Addr} {A1 A2 A1' A2' : Option Addr} {L L' : List Rv} (h : Blk w p 62 #[.pointer q, .slice A1 n1 c1, .slice A2 n2 c2]) (h' : Blk w' p 62 #[.pointer q', .slice A1' n1' c1', .slice A2' n2' c2'])
    (hg : g' = g ∨ ∃ k, g' = some k ∧ w.heap.size ≤ k) (h1 : ∀ k, A1'.map (·.block) = some k → A1.map (·.block) = some k ∨ w.heap.size ≤ k) (h2 : ∀ k, A2'.map (·.block) = some k → A2.map (·.block) = some k ∨ w.heap.size ≤ k)
    (hL : ∀ v ∈ L', v ∈ L ∨ (v.b ≠ [] → ∀ ad, v.A = some ad → w.heap.size ≤ ad.block)) : Sub w w' p pf g g' L L' := ⟨fun k hk => by
  rcases hk with e | e | e | ⟨cs, hb, v, hv, e⟩
  · exact .inl (.inl e)
  · exact .inl (.inr (.inl e))
  · rcases hg with rfl | ⟨k', rfl, hk'⟩
    · exact .inl (.inr (.inr (.inl e)))
    · injection e with e; exact .inr (by omega)
  · unfold Blk at hb h'
    rw [h'] at hb
    injection hb with hb; injection hb with hb _ _
    subst hb
    simp only [List.mem_cons, List.not_mem_nil, or_false] at hv
    rcases hv with rfl | rfl | rfl
    · cases e
    · rw [ownBlock_slice] at e
      rcases h1 k e.symm with h_ | h_
      · exact .inl (.inr (.inr (.inr ⟨_, h, .slice A1 n1 c1, by simp, by rw [ownBlock_slice]; exact h_.symm⟩)))
      · exact .inr h_
    · rw [ownBlock_slice] at e
      rcases h2 k e.symm with h_ | h_
      · exact .inl (.inr (.inr (.inr ⟨_, h, .slice A2 n2 c2, by simp, by rw [ownBlock_slice]; exact h_.symm⟩)))
      · exact .inr h_, hL⟩
end Jr
set_option maxRecDepth 100000 in
set_option maxHeartbeats 1000000 in
theorem jappendX_any (w : World) (B p pf : Nat) (g : Option Nat) (t : St.T) (L : List Rv) (k : Int) (A : Option Addr) (b : List Int) (c : Nat) (h : JAt w B p pf g t L) (hb : Bod w g B ⟨k, b, A, c⟩) (hl : t.data.length ≤ 16777216) (hL : L.length ≤ 1000000) :
    Calls Try.prog 41 #[.pointer (some ⟨p, 0, none⟩), .agg #[.int .u8 k, .slice A b.length c]] w fun e_ w' => ∃ g' L', e_ = .returned (.int .i64 (Jr.apE t (Jr.sealF Jr.s0 (rs L)) ⟨k, b⟩)) ∧ JAt w' B p pf g' (Jr.apT t (Jr.sealF Jr.s0 (rs L)) ⟨k, b⟩) L' ∧ rs L' = Jr.apL t (Jr.sealF Jr.s0 (rs L)) (rs L) ⟨k, b⟩ ∧ Kf B TS g w w' ∧ Chg (Jr.Own w p pf g) w w' ∧ (g' = g ∨ ∃ k, g' = some k ∧ w.heap.size ≤ k) ∧ Jr.Sub w w' p pf g g' L L' := by
  have hBw := h.lt.2.2
  obtain ⟨hBp, HF, A1, c1, A2, c2, HJ, HO, HU⟩ := h
  have HBd := hb
  have HK := Kf.below (w := w) (B := B) TS g (Below.refl _ _) hBw
  have HX : Chg (fun k_ => k_ = p ∨ k_ = pf ∨ some k_ = g ∨ some k_ = (Value.slice A1 L.length c1).ownBlock ∨ some k_ = (Value.slice A2 (Jr.sums (rs L)).length c2).ownBlock) w w := Chg.refl _ w
  have HJ0 := HJ
  refine Fw.calls Try.func41 rfl Try.ntmps41 rfl ?_
  have HB := Below.refl (B) w
  refine Fw.seq fun _ hK1 => ?_
  refine Fw.region ?_
  refine Fw.box rfl rfl ?_
  intro w1 gXr egXr HXr hb
  have hxo : ¬ some gXr = (Value.slice A1 L.length c1).ownBlock := HO.out (by omega)
  have n_p_gXr : p < gXr := by have := HJ.lt; omega
  have lgXr : B ≤ gXr := by have := (Nat.le_trans hBw HB.size); omega
  replace HJ := HJ.low hb
  replace HF := HF.low_ hb
  replace HO := HO.low hb (Nat.le_trans hBw HB.size)
  replace HU := own_below HU hb (Nat.le_refl _)
  replace HBd := HBd.low hb (Nat.le_trans hBw HB.size)
  replace HK := HK.trans (Kf.below TS _ hb (Nat.le_trans hBw HB.size)) (.inl rfl)
  replace HX := HX.trans (Chg.of_below hb _) (fun _ _ h => h)
  replace HB := HB.trans (hb.mono (Nat.le_trans hBw HB.size))
  clear hb
  clear egXr
  refine Fw.s (Fw.val_assign rfl) rfl ?_
  refine Fw.nil ?_
  refine hK1 _ _ ?_
  refine Fw.seq fun _ hK2 => ?_
  refine Fw.seq fun _ hK3 => ?_
  refine Fw.region ?_
  refine Fw.s (Fw.val_fieldAddr fl64_1 rfl rfl) rfl ?_
  refine Fw.ld sc56 rfl (HXr.cell 1) rfl ?_
  refine Fw.s (Fw.val_len Try.underlying56 rfl) rfl ?_
  refine Fw.s2 (Fw.val_bin rfl rfl Fw.b_gtr) rfl ?_ ?_
  · rintro h8
    refine Fw.nil ?_
    refine hK3 _ _ ?_
    refine Fw.condT rfl ?_
    refine Fw.seq fun _ hK5 => ?_
    refine Fw.region ?_
    refine Fw.s (Fw.val_assign rfl) rfl ?_
    refine Fw.nil ?_
    refine hK5 _ _ (Fw.FC.sub (f' := [(4, _)]) (.cons rfl .nil) ?_)
    refine Fw.ret ?_
    refine Fw.X_ret ?_
    refine Fw.ret_ [.tmp 4] [_] Try.results41 (.tmp rfl .nil) ?_
    have e1 : Jr.apE t (Jr.sealF Jr.s0 (rs L)) ⟨k, b⟩ = 1 := if_pos (by show 8192 < b.length; omega)
    have e2 : Jr.apT t (Jr.sealF Jr.s0 (rs L)) ⟨k, b⟩ = t := if_pos (by show 8192 < b.length; omega)
    rw [e1, e2]
    exact ⟨g, L, rfl, ⟨hBp, HF, A1, c1, A2, c2, HJ, HO, HU⟩, by unfold Jr.apL; rw [e1]; rfl, HK, HX.mono (Jr.own_sub HJ0), .inl rfl, Jr.sub_of HJ0 HJ (.inl rfl) (fun _ => .inl) (fun _ => .inl) (fun _ => .inl)⟩
  · rintro h8
    refine Fw.nil ?_
    refine hK3 _ _ ?_
    refine Fw.condF rfl ?_
    refine Fw.skip ?_
    refine hK2 _ _ ?_
    refine Fw.seq fun _ hK6 => ?_
    have hlt : L.length < (Jr.sums (rs L)).length := by rw [Jr.sums_len, rs_len]; omega
    obtain ⟨ad, b_, o_, hA, hadd, HE⟩ := Fw.rdAtM (Rd.of_own HU) L.length hlt
    rw [show (Jr.sums (rs L))[L.length] = (Jr.sealF Jr.s0 (rs L)) by rw [Jr.sums_at, List.take_of_length_le (by rw [rs_len]; exact Nat.le_refl _)]] at HE
    refine Fw.regionH (by kernel_rfl) ?_
    have R_HJ := HJ
    have R_HXr := HXr
    have R_HE := HE
    have R_HB := HB
    intro w2 hb
    have HS := hb
    replace HJ := HJ.low hb
    replace HF := HF.low_ hb
    replace HO := HO.low hb (Nat.le_trans hBw HB.size)
    replace HU := own_below HU hb (Nat.le_refl _)
    replace HBd := HBd.low hb (Nat.le_trans hBw HB.size)
    replace HK := HK.trans (Kf.below TS _ hb (Nat.le_trans hBw HB.size)) (.inl rfl)
    replace HX := HX.trans (Chg.of_below hb _) (fun _ _ h => h)
    replace HXr := HXr.low hb
    replace HE := (hb.cell (World.block_lt_of_cell? _ _ HE)).trans HE
    replace HB := HB.trans (hb.mono (Nat.le_trans hBw HB.size))
    clear hb
    refine Fw.hTk 0 rfl rfl (Fw.yV (Fw.val_move rfl)) rfl ?_
    refine Fw.hTk 1 rfl rfl (Fw.yV (Fw.val_nil rfl)) rfl ?_
    refine Fw.hTk 2 rfl rfl (Fw.yV (Fw.val_fieldAddr fl62_2 rfl rfl)) rfl ?_
    refine Fw.hTk 3 rfl rfl (Fw.yV (Fw.hLd sc60 rfl (R_HJ.cell 2))) rfl ?_
    refine Fw.hTk 4 rfl rfl (Fw.yV (Fw.val_move rfl)) rfl ?_
    refine Fw.hTk 5 rfl rfl (Fw.yV (Fw.val_nil rfl)) rfl ?_
    refine Fw.hTk 6 rfl rfl (Fw.yV (Fw.val_fieldAddr fl62_1 rfl rfl)) rfl ?_
    refine Fw.hTk 7 rfl rfl (Fw.yV (Fw.hLd sc59 rfl (R_HJ.cell 1))) rfl ?_
    refine Fw.hTk 8 rfl rfl (Fw.yV (Fw.val_len Try.underlying59 rfl)) rfl ?_
    refine Fw.hTk 9 rfl rfl (Fw.yV (Fw.val_indexR Try.underlying60 sz51 rfl hA rfl rfl hlt hadd)) rfl ?_
    refine Fw.hTk 10 rfl rfl (Fw.yV (Fw.hLd sc51 rfl (R_HE))) rfl ?_
    refine Fw.hTk 11 rfl rfl (Fw.yV (Fw.hLdA ag64 rfl (Fw.rdBlk R_HXr) rfl)) rfl ?_
    refine Fw.hAll1 12 (by kernel_rfl) ?_
    refine Fw.hOp 12 rfl ?_
    refine Fw.call cf52 rfl rfl (appendRecord_nil _ (Jr.sealF Jr.s0 (rs L)) k A b c HBd.1 (by omega)) ?_
    rintro e_ w3 ⟨A25, c25, rfl, HA, hb_⟩
    refine ⟨_, rfl, ?_⟩
    replace HJ := HJ.low hb_
    replace HF := HF.low_ hb_
    replace HO := HO.low hb_ (Nat.le_trans hBw HB.size)
    replace HU := own_below HU hb_ (Nat.le_refl _)
    replace HBd := HBd.low hb_ (Nat.le_trans hBw HB.size)
    replace HK := HK.trans (Kf.below TS _ hb_ (Nat.le_trans hBw HB.size)) (.inl rfl)
    replace HX := HX.trans (Chg.of_below hb_ _) (fun _ _ h => h)
    replace HXr := HXr.low hb_
    replace HE := (hb_.cell (World.block_lt_of_cell? _ _ HE)).trans HE
    replace HS := HS.trans (hb_.mono HS.size)
    replace HB := HB.trans (hb_.mono (Nat.le_trans hBw HB.size))
    clear hb_
    refine Fw.hNext HS ?_
    refine Fw.hTk 13 rfl rfl (Fw.yV (Fw.val_move rfl)) rfl ?_
    refine Fw.hTk 14 rfl rfl (Fw.yV (Fw.val_extract rfl rfl)) rfl ?_
    refine Fw.hTk 15 rfl rfl (Fw.yV (Fw.val_extract rfl rfl)) rfl ?_
    refine Fw.hTk 16 rfl rfl (Fw.yV (Fw.val_assign rfl)) rfl ?_
    refine Fw.hTk 17 rfl rfl (Fw.yV (Fw.val_assign rfl)) rfl ?_
    refine Fw.hDone (by kernel_rfl) ?_
    refine hK6 _ _ (Fw.FC.sub (f' := [(6, _), (5, _), (3, _), (0, _)]) (.cons rfl (.cons rfl (.cons rfl (.cons rfl .nil)))) ?_)
    refine Fw.seq fun _ hK8 => ?_
    refine Fw.seq fun _ hK9 => ?_
    refine Fw.region ?_
    refine Fw.s (Fw.val_move rfl) rfl ?_
    refine Fw.s (Fw.val_nil rfl) rfl ?_
    refine Fw.s (Fw.val_fieldAddr fl62_0 rfl rfl) rfl ?_
    refine Fw.ld sc30 rfl (HJ.cell 0) rfl ?_
    refine Fw.s (Fw.val_move rfl) rfl ?_
    refine Fw.call cf53 rfl rfl (write_any _ B pf g t (Jr.one (Jr.sealF Jr.s0 (rs L)) ⟨k, b⟩) A25 c25 HF hl (Rd.of_own HA) (Nat.le_trans (Jr.one_le (by show b.length ≤ 8192; omega)) (by decide))) ?_
    rintro e_ w4 ⟨rfl, hto⟩
    refine ⟨_, rfl, ?_⟩
    have hszW : w.heap.size ≤ w3.heap.size := HB.size
    obtain ⟨g2, HF2, hc, hg2⟩ := hto
    have hK := Kf.file HF hc
    replace HJ := HJ.kf hK (by decide) (by decide)
    replace HO := HO.kf hK (by decide) (by decide) (by decide) hg2
    replace HU := own_kf HU hK (by decide) (by decide)
    replace HBd := HBd.kf hK (by decide) hg2
    replace HX := HX.trans hc (fun k_ hk_ e => by first | exact .inl e | (rcases e with e | e; exact .inr (.inl e); exact .inr (.inr (.inl e))) | exact .inr (.inr (.inr (.inl e))) | exact .inr (.inr (.inr (.inr e))) | (exfalso; omega))
    replace HXr := HXr.kf hK (by decide) (by decide)
    replace HB := HB.trans hK.low
    replace HK := HK.trans (hK.ts (by decide)) (.inl rfl)
    clear hK
    clear HF hc
    have HF := HF2
    clear HF2
    replace hg2 : g2 = g ∨ ∃ k, g2 = some k ∧ w.heap.size ≤ k := hg2.imp id (fun ⟨k, e, h_⟩ => ⟨k, e, Nat.le_trans hszW h_⟩)
    refine Fw.s (Fw.val_assign rfl) rfl ?_
    refine Fw.nil ?_
    refine hK9 _ _ (Fw.FC.sub (f' := [(7, _), (6, _), (3, _), (0, _)]) (.cons rfl (.cons rfl (.cons rfl (.cons rfl .nil)))) ?_)
    refine Fw.seq fun _ hK10 => ?_
    refine Fw.region ?_
    refine Fw.s (Fw.val_move rfl) rfl ?_
    refine Fw.s2 (Fw.val_bin rfl rfl Fw.b_neq) rfl ?_ ?_
    · rintro hwe
      refine Fw.nil ?_
      refine hK10 _ _ ?_
      refine Fw.condT rfl ?_
      refine Fw.seq fun _ hK12 => ?_
      refine Fw.region ?_
      refine Fw.s (Fw.val_move rfl) rfl ?_
      refine Fw.s (Fw.val_assign rfl) rfl ?_
      refine Fw.nil ?_
      refine hK12 _ _ (Fw.FC.sub (f' := [(4, _)]) (.cons rfl .nil) ?_)
      refine Fw.ret ?_
      refine Fw.X_ret ?_
      refine Fw.ret_ [.tmp 4] [_] Try.results41 (.tmp rfl .nil) ?_
      have e1 : Jr.apE t (Jr.sealF Jr.s0 (rs L)) ⟨k, b⟩ = St.writeE t (Jr.one (Jr.sealF Jr.s0 (rs L)) ⟨k, b⟩) := if_neg (by show ¬ 8192 < b.length; omega)
      have e2 : Jr.apT t (Jr.sealF Jr.s0 (rs L)) ⟨k, b⟩ = St.write t (Jr.one (Jr.sealF Jr.s0 (rs L)) ⟨k, b⟩) := if_neg (by show ¬ 8192 < b.length; omega)
      rw [e1, e2]
      exact ⟨g2, L, rfl, ⟨hBp, HF, A1, c1, A2, c2, HJ, HO, HU⟩, by unfold Jr.apL; rw [e1]; exact (if_neg hwe).symm, HK, HX.mono (Jr.own_sub HJ0), hg2, Jr.sub_of HJ0 HJ hg2 (fun _ => .inl) (fun _ => .inl) (fun _ => .inl)⟩
    · rintro hwe
      refine Fw.nil ?_
      refine hK10 _ _ ?_
      refine Fw.condF rfl ?_
      refine Fw.skip ?_
      refine hK8 _ _ ?_
      refine Fw.seq_cut [(0, .pointer (some ⟨p, 0, none⟩)), (6, .int .u64 (Jr.next (Jr.sealF Jr.s0 (rs L)) ⟨k, b⟩))] (fun W_ => Chg (fun k_ => k_ = p ∨ k_ = pf ∨ some k_ = g ∨ some k_ = (Value.slice A1 L.length c1).ownBlock ∨ some k_ = (Value.slice A2 (Jr.sums (rs L)).length c2).ownBlock) w W_ ∧ (∃ (v' : Rv) (A1_ : Option Addr) (c1_ : Nat), v'.r = (⟨k, b⟩ : Jr.R) ∧ Blk W_ p 62 #[.pointer (some ⟨pf, 0, none⟩), .slice A1_ (L ++ [v']).length c1_, .slice A2 (Jr.sums (rs L)).length c2] ∧ RecO W_ g2 B B 64 A1_ c1_ (L ++ [v']) ∧ (∀ k_, A1_.map (·.block) = some k_ → A1.map (·.block) = some k_ ∨ w.heap.size ≤ k_) ∧ (∀ ad, v'.A = some ad → w.heap.size ≤ ad.block)) ∧ FileAt W_ B pf g2 (St.write t (Jr.one (Jr.sealF Jr.s0 (rs L)) ⟨k, b⟩)) ∧ W_.ownsRow B 51 1 (.slice A2 (Jr.sums (rs L)).length c2) (Jr.sums (rs L)).length ((Jr.sums (rs L)).map (.int .u64)) ∧ Kf B TS g w W_ ∧ Below (B) w W_) ?_ (fun _ hK13 => ?_)
      · rintro w5 ⟨HX, HJX, HF, HU, HK, HB⟩
        refine Fw.seq fun _ hK14 => ?_
        obtain ⟨v', A1_, c1_, hv, HJ, HO, hA1_, hbn⟩ := HJX
        refine Fw.region ?_
        refine Fw.s (Fw.val_move rfl) rfl ?_
        refine Fw.s (Fw.val_move rfl) rfl ?_
        refine Fw.s (Fw.val_nil rfl) rfl ?_
        refine Fw.s (Fw.val_fieldAddr fl62_2 rfl rfl) rfl ?_
        refine Fw.ld sc60 rfl (HJ.cell 2) rfl ?_
        refine Fw.s (Fw.val_move rfl) rfl ?_
        refine Fw.buildSlice [_] sl60 rfl rfl (by exact Fw.allSz rfl) (by decide) rfl ?_
        intro w6 gS54 egS54 HS54 hb
        have n_p_gS54 : p < gS54 := by have := HJ.lt; omega
        have lgS54 : B ≤ gS54 := by have := (Nat.le_trans hBw HB.size); omega
        replace HX := HX.trans (Chg.of_below hb _) (fun _ _ h => h)
        replace HF := HF.low_ hb
        replace HU := own_below HU hb (Nat.le_refl _)
        replace HK := HK.trans (Kf.below TS _ hb (Nat.le_trans hBw HB.size)) (.inl rfl)
        replace HJ := HJ.low hb
        replace HO := HO.low hb (Nat.le_trans hBw HB.size)
        replace HB := HB.trans (hb.mono (Nat.le_trans hBw HB.size))
        clear hb
        clear egS54
        have hsu : Jr.sums (rs (L ++ [v'])) = Jr.sums (rs L) ++ [Jr.next (Jr.sealF Jr.s0 (rs L)) ⟨k, b⟩] := by rw [rs_append, show rs [v'] = [(⟨k, b⟩ : Jr.R)] from congrArg (fun x => [x]) hv, Jr.sums_snoc, Jr.sealF_snoc]
        refine Fw.append (base := B) (Jr.sums (rs (L ++ [v']))).length ((Jr.sums (rs (L ++ [v']))).map (.int .u64)) sl60 rfl rfl HU (Fw.rdBlk HS54) rfl (Fw.oneCellsL rfl) (by have := Jr.sums_len (rs L); rw [rs_len] at this; unfold maxLen; omega) (Nat.le_trans hBw HB.size) (by rw [hsu]; simp) (by rw [hsu, List.map_append]; rfl) rfl ?_
        intro A55 c55 w7 N_ hbb hc hrow
        have hA2_ : ∀ k_, A55.map (·.block) = some k_ → A2.map (·.block) = some k_ ∨ w.heap.size ≤ k_ := fun k_ e_ => by
          rcases hrow with h_ | h_
          · left; exact (ownBlock_slice A2 (Jr.sums (rs L)).length c2).symm.trans (h_.symm.trans e_)
          · right; rw [h_] at e_; injection e_ with e_; have := HB.size; omega
        have hK0 := Kf.row (g := none) HU hc hbb
        have hK := hK0.any g2
        replace HX := HX.trans hc (fun k_ hk_ e => by first | exact .inl e | (rcases e with e | e; exact .inr (.inl e); exact .inr (.inr (.inl e))) | exact .inr (.inr (.inr (.inl e))) | exact .inr (.inr (.inr (.inr e))) | (exfalso; omega))
        replace HF := HF.kf0 hK0 (by decide) (by decide)
        replace HJ := HJ.kf hK (by decide) (by decide)
        replace HO := HO.kf hK (by decide) (by decide) (by decide) (.inl rfl)
        replace HB := HB.trans hK.low
        replace HK := HK.trans (hK.ts (by decide)) hg2
        clear hK hK0
        clear hbb hc hrow HU
        have HU := N_
        clear N_
        refine Fw.s (Fw.val_nil rfl) rfl ?_
        refine Fw.s (Fw.val_fieldAddr fl62_2 rfl rfl) rfl ?_
        refine Fw.store sz60 rfl rfl HJ rfl rfl rfl ?_
        intro w8 N_ hc
        have hK0 := Kf.box (B := B) (g := none) HJ hc (by omega)
        have hK := hK0.any g2
        replace HX := HX.trans hc (fun k_ hk_ e => by first | exact .inl e | (rcases e with e | e; exact .inr (.inl e); exact .inr (.inr (.inl e))) | exact .inr (.inr (.inr (.inl e))) | exact .inr (.inr (.inr (.inr e))) | (exfalso; omega))
        replace HF := HF.kf0 hK0 (by decide) (by decide)
        replace HU := own_kf HU hK (by decide) (by decide)
        replace HO := HO.kf hK (by decide) (by decide) (by decide) (.inl rfl)
        replace HB := HB.trans hK.low
        replace HK := HK.trans (hK.ts (by decide)) hg2
        clear hK hK0
        clear hc
        clear HJ
        have HJ := N_
        clear N_
        refine Fw.nil ?_
        refine hK14 _ _ (Fw.FC.sub (f' := []) .nil ?_)
        refine Fw.seq fun _ hK15 => ?_
        refine Fw.region ?_
        refine Fw.s (Fw.val_assign rfl) rfl ?_
        refine Fw.nil ?_
        refine hK15 _ _ ?_
        refine Fw.ret ?_
        refine Fw.ret_ [.tmp 4] [_] Try.results41 (.tmp rfl .nil) ?_
        have e1 : Jr.apE t (Jr.sealF Jr.s0 (rs L)) ⟨k, b⟩ = St.writeE t (Jr.one (Jr.sealF Jr.s0 (rs L)) ⟨k, b⟩) := if_neg (by show ¬ 8192 < b.length; omega)
        have e2 : Jr.apT t (Jr.sealF Jr.s0 (rs L)) ⟨k, b⟩ = St.write t (Jr.one (Jr.sealF Jr.s0 (rs L)) ⟨k, b⟩) := if_neg (by show ¬ 8192 < b.length; omega)
        rw [e1, e2]
        have hw0 : St.writeE t (Jr.one (Jr.sealF Jr.s0 (rs L)) ⟨k, b⟩) = 0 := Classical.byContradiction hwe
        rw [hw0]
        exact ⟨g2, L ++ [v'], rfl, ⟨hBp, HF, A1_, c1_, _, _, HJ, HO, HU⟩, by unfold Jr.apL; rw [e1, if_pos hw0, rs_append, show rs [v'] = [(⟨k, b⟩ : Jr.R)] from congrArg (fun x => [x]) hv], HK, HX.mono (Jr.own_sub HJ0), hg2, Jr.sub_of HJ0 HJ hg2 hA1_ hA2_ (fun v hv_ => by rcases List.mem_append.1 hv_ with h_ | h_; exact .inl h_; right; intro _ ad e_; rw [List.mem_singleton.1 h_] at e_; exact hbn ad e_)⟩
      · skip
        have hBr : B ≤ w4.heap.size := (Nat.le_trans hBw HB.size)
        refine Fw.regionHS (fun W_ => Below (B) w4 W_ ∧ Blk W_ gXr 64 #[.int .u8 k, .slice A b.length c]) (by kernel_rfl) ⟨(Fw.drew_low w4).mono hBr, HXr.low (Fw.drew_low w4)⟩ ?_
        have R_HJ := HJ
        have R_HXr := HXr
        have R_HB := HB
        intro w9 hb HS
        replace HS := HS.1
        replace HJ := HJ.low hb
        replace HF := HF.low_ hb
        replace HO := HO.low hb (Nat.le_trans hBw HB.size)
        replace HU := own_below HU hb (Nat.le_refl _)
        replace HBd := HBd.low hb (Nat.le_trans hBw HB.size)
        replace HK := HK.trans (Kf.below TS _ hb (Nat.le_trans hBw HB.size)) (.inl rfl)
        replace HX := HX.trans (Chg.of_below hb _) (fun _ _ h => h)
        replace HXr := HXr.low hb
        replace HB := HB.trans (hb.mono (Nat.le_trans hBw HB.size))
        clear hb
        refine Fw.hTk 0 rfl rfl (Fw.yV (Fw.val_move rfl)) rfl ?_
        refine Fw.hTk 1 rfl rfl (Fw.yV (Fw.val_move rfl)) rfl ?_
        refine Fw.hTk 2 rfl rfl (Fw.yV (Fw.val_nil rfl)) rfl ?_
        refine Fw.hTk 3 rfl rfl (Fw.yV (Fw.val_fieldAddr fl62_1 rfl rfl)) rfl ?_
        refine Fw.hTk 5 rfl rfl (Fw.yV (Fw.val_loadA ag64 rfl (fun _ h_ => Fw.rdBlk h_.2) rfl)) rfl ?_
        refine Fw.hAll2 4 6 (by kernel_rfl) ?_ ?_
        · skip
          refine Fw.hOp 4 rfl ?_
          refine Fw.ld sc59 rfl (HJ.cell 1) rfl ?_
          refine Fw.hNext ⟨HS, HXr⟩ ?_
          refine Fw.hAll1 6 (by kernel_rfl) ?_
          refine Fw.hOp 6 rfl ?_
          refine Fw.call cf21 rfl rfl (clone_any _ k A b c HBd.1 (by omega)) ?_
          rintro e_ w10 ⟨A43, c43, rfl, HC, hb_⟩
          refine ⟨_, rfl, ?_⟩
          have hgC : ∀ k_, g2 = some k_ → k_ < w9.heap.size := fun k_ e_ => (HF.lt_.2.2 k_ e_).1
          have hszC : w.heap.size ≤ w9.heap.size := HB.size
          replace HJ := HJ.low hb_
          replace HF := HF.low_ hb_
          replace HO := HO.low hb_ (Nat.le_trans hBw HB.size)
          replace HU := own_below HU hb_ (Nat.le_refl _)
          replace HBd := HBd.low hb_ (Nat.le_trans hBw HB.size)
          replace HK := HK.trans (Kf.below TS _ hb_ (Nat.le_trans hBw HB.size)) (.inl rfl)
          replace HX := HX.trans (Chg.of_below hb_ _) (fun _ _ h => h)
          replace HXr := HXr.low hb_
          replace HS := HS.trans (hb_.mono (Nat.le_trans hBr HS.size))
          replace HB := HB.trans (hb_.mono (Nat.le_trans hBw HB.size))
          clear hb_
          refine Fw.hNext ⟨HS, HXr⟩ ?_
          refine Fw.hAll1 7 (by kernel_rfl) ?_
          refine Fw.hOp 7 rfl ?_
          refine Fw.buildSlice [_] sl59 rfl rfl (by exact Fw.allSz rfl) (by decide) rfl ?_
          intro w11 gS44 egS44 HS44 hb
          have rgS44 : w4.heap.size ≤ gS44 := by have := HS.size; omega
          have n_p_gS44 : p < gS44 := by have := HJ.lt; omega
          have n_gXr_gS44 : gXr < gS44 := by have := HXr.lt; omega
          have lgS44 : B ≤ gS44 := by have := (Nat.le_trans hBw HB.size); omega
          replace HJ := HJ.low hb
          replace HF := HF.low_ hb
          replace HO := HO.low hb (Nat.le_trans hBw HB.size)
          replace HU := own_below HU hb (Nat.le_refl _)
          replace HBd := HBd.low hb (Nat.le_trans hBw HB.size)
          replace HK := HK.trans (Kf.below TS _ hb (Nat.le_trans hBw HB.size)) (.inl rfl)
          replace HX := HX.trans (Chg.of_below hb _) (fun _ _ h => h)
          replace HXr := HXr.low hb
          replace HS := HS.trans (hb.mono (Nat.le_trans hBr HS.size))
          replace HC := own_below HC hb (Nat.le_refl _)
          replace HB := HB.trans (hb.mono (Nat.le_trans hBw HB.size))
          clear hb
          clear egS44
          refine Fw.hNext ⟨HS, HXr⟩ ?_
          refine Fw.hAll1 8 (by kernel_rfl) ?_
          refine Fw.hOp 8 rfl ?_
          refine Fw.append (base := B) (L ++ [(⟨k, b, A43, c43⟩ : Rv)]).length ((L ++ [(⟨k, b, A43, c43⟩ : Rv)]).flatMap Rv.cells) sl59 rfl rfl HO.1 (Fw.rdBlk HS44) rfl (Fw.oneCellsL rfl) (by unfold maxLen; omega) (Nat.le_trans hBw HB.size) (by simp) (by rw [List.flatMap_append]; rfl) rfl ?_
          intro A45 c45 w12 N_ hbb hc hrow
          have hA1_ : ∀ k_, A45.map (·.block) = some k_ → A1.map (·.block) = some k_ ∨ w.heap.size ≤ k_ := fun k_ e_ => by
            rcases hrow with h_ | h_
            · left; exact (ownBlock_slice A1 L.length c1).symm.trans (h_.symm.trans e_)
            · right; rw [h_] at e_; injection e_ with e_; have := HB.size; omega
          have hbn : ∀ ad, A43 = some ad → w.heap.size ≤ ad.block := fun ad e_ => Nat.le_trans hszC (Fw.own_lo HC (by rw [e_]; rfl))
          have HO2 := RecO.snoc HO (by decide) (Bod.new HC hgC) N_ hc hbb
          have hK0 := Kf.row (g := none) HO.1 hc hbb
          have hK := hK0.any g2
          replace HJ := HJ.kf hK (by decide) (by decide)
          replace HF := HF.kf0 hK0 (by decide) (by decide)
          replace HU := own_kf HU hK (by decide) (by decide)
          replace HBd := HBd.kf hK (by decide) (.inl rfl)
          replace HX := HX.trans hc (fun k_ hk_ e => by first | exact .inl e | (rcases e with e | e; exact .inr (.inl e); exact .inr (.inr (.inl e))) | exact .inr (.inr (.inr (.inl e))) | exact .inr (.inr (.inr (.inr e))) | (exfalso; omega))
          replace HXr := HXr.chg hc (hxo)
          replace HS := HS.trans hK.low
          replace HB := HB.trans hK.low
          replace HK := HK.trans (hK.ts (by decide)) hg2
          clear hK hK0
          clear hbb hc hrow HO N_
          have HO := HO2
          clear HO2
          refine Fw.hNext ⟨HS, HXr⟩ ?_
          refine Fw.hTk 9 rfl rfl (Fw.yV (Fw.val_nil rfl)) rfl ?_
          refine Fw.hTk 10 rfl rfl (Fw.yV (Fw.val_fieldAddr fl62_1 rfl rfl)) rfl ?_
          refine Fw.hAll1 11 (by kernel_rfl) ?_
          refine Fw.hOp 11 rfl ?_
          refine Fw.store sz59 rfl rfl HJ rfl rfl rfl ?_
          intro w13 N_ hc
          have hK0 := Kf.box (B := B) (g := none) HJ hc (by omega)
          have hK := hK0.any g2
          replace HF := HF.kf0 hK0 (by decide) (by decide)
          replace HO := HO.kf hK (by decide) (by decide) (by decide) (.inl rfl)
          replace HU := own_kf HU hK (by decide) (by decide)
          replace HBd := HBd.kf hK (by decide) (.inl rfl)
          replace HX := HX.trans hc (fun k_ hk_ e => by first | exact .inl e | (rcases e with e | e; exact .inr (.inl e); exact .inr (.inr (.inl e))) | exact .inr (.inr (.inr (.inl e))) | exact .inr (.inr (.inr (.inr e))) | (exfalso; omega))
          replace HXr := HXr.kf hK (by decide) (by decide)
          replace HS := HS.trans hK.low
          replace HB := HB.trans hK.low
          replace HK := HK.trans (hK.ts (by decide)) hg2
          clear hK hK0
          clear hc
          clear HJ
          have HJ := N_
          clear N_
          refine Fw.hNext ⟨HS, HXr⟩ ?_
          refine Fw.hDone (by kernel_rfl) ?_
          have HJX : ∃ (v' : Rv) (A1_ : Option Addr) (c1_ : Nat), v'.r = (⟨k, b⟩ : Jr.R) ∧ Blk _ p 62 #[.pointer (some ⟨pf, 0, none⟩), .slice A1_ (L ++ [v']).length c1_, .slice A2 (Jr.sums (rs L)).length c2] ∧ RecO _ g2 B B 64 A1_ c1_ (L ++ [v']) ∧ (∀ k_, A1_.map (·.block) = some k_ → A1.map (·.block) = some k_ ∨ w.heap.size ≤ k_) ∧ (∀ ad, v'.A = some ad → w.heap.size ≤ ad.block) := ⟨(⟨k, b, A43, c43⟩ : Rv), _, _, rfl, HJ, HO, hA1_, hbn⟩
          exact hK13 _ _ ⟨HX, HJX, HF, HU, HK, HB⟩ (.cons rfl (.cons rfl .nil))
        · skip
          refine Fw.hOp 6 rfl ?_
          refine Fw.call cf21 rfl rfl (clone_any _ k A b c HBd.1 (by omega)) ?_
          rintro e_ w14 ⟨A43, c43, rfl, HC, hb_⟩
          refine ⟨_, rfl, ?_⟩
          have hgC : ∀ k_, g2 = some k_ → k_ < w9.heap.size := fun k_ e_ => (HF.lt_.2.2 k_ e_).1
          have hszC : w.heap.size ≤ w9.heap.size := HB.size
          replace HJ := HJ.low hb_
          replace HF := HF.low_ hb_
          replace HO := HO.low hb_ (Nat.le_trans hBw HB.size)
          replace HU := own_below HU hb_ (Nat.le_refl _)
          replace HBd := HBd.low hb_ (Nat.le_trans hBw HB.size)
          replace HK := HK.trans (Kf.below TS _ hb_ (Nat.le_trans hBw HB.size)) (.inl rfl)
          replace HX := HX.trans (Chg.of_below hb_ _) (fun _ _ h => h)
          replace HXr := HXr.low hb_
          replace HS := HS.trans (hb_.mono (Nat.le_trans hBr HS.size))
          replace HB := HB.trans (hb_.mono (Nat.le_trans hBw HB.size))
          clear hb_
          refine Fw.hNext ⟨HS, HXr⟩ ?_
          refine Fw.hAll2 4 7 (by kernel_rfl) ?_ ?_
          · skip
            refine Fw.hOp 4 rfl ?_
            refine Fw.ld sc59 rfl (HJ.cell 1) rfl ?_
            refine Fw.hNext ⟨HS, HXr⟩ ?_
            refine Fw.hAll1 7 (by kernel_rfl) ?_
            refine Fw.hOp 7 rfl ?_
            refine Fw.buildSlice [_] sl59 rfl rfl (by exact Fw.allSz rfl) (by decide) rfl ?_
            intro w15 gS44 egS44 HS44 hb
            have rgS44 : w4.heap.size ≤ gS44 := by have := HS.size; omega
            have n_p_gS44 : p < gS44 := by have := HJ.lt; omega
            have n_gXr_gS44 : gXr < gS44 := by have := HXr.lt; omega
            have lgS44 : B ≤ gS44 := by have := (Nat.le_trans hBw HB.size); omega
            replace HJ := HJ.low hb
            replace HF := HF.low_ hb
            replace HO := HO.low hb (Nat.le_trans hBw HB.size)
            replace HU := own_below HU hb (Nat.le_refl _)
            replace HBd := HBd.low hb (Nat.le_trans hBw HB.size)
            replace HK := HK.trans (Kf.below TS _ hb (Nat.le_trans hBw HB.size)) (.inl rfl)
            replace HX := HX.trans (Chg.of_below hb _) (fun _ _ h => h)
            replace HXr := HXr.low hb
            replace HS := HS.trans (hb.mono (Nat.le_trans hBr HS.size))
            replace HC := own_below HC hb (Nat.le_refl _)
            replace HB := HB.trans (hb.mono (Nat.le_trans hBw HB.size))
            clear hb
            clear egS44
            refine Fw.hNext ⟨HS, HXr⟩ ?_
            refine Fw.hAll1 8 (by kernel_rfl) ?_
            refine Fw.hOp 8 rfl ?_
            refine Fw.append (base := B) (L ++ [(⟨k, b, A43, c43⟩ : Rv)]).length ((L ++ [(⟨k, b, A43, c43⟩ : Rv)]).flatMap Rv.cells) sl59 rfl rfl HO.1 (Fw.rdBlk HS44) rfl (Fw.oneCellsL rfl) (by unfold maxLen; omega) (Nat.le_trans hBw HB.size) (by simp) (by rw [List.flatMap_append]; rfl) rfl ?_
            intro A45 c45 w16 N_ hbb hc hrow
            have hA1_ : ∀ k_, A45.map (·.block) = some k_ → A1.map (·.block) = some k_ ∨ w.heap.size ≤ k_ := fun k_ e_ => by
              rcases hrow with h_ | h_
              · left; exact (ownBlock_slice A1 L.length c1).symm.trans (h_.symm.trans e_)
              · right; rw [h_] at e_; injection e_ with e_; have := HB.size; omega
            have hbn : ∀ ad, A43 = some ad → w.heap.size ≤ ad.block := fun ad e_ => Nat.le_trans hszC (Fw.own_lo HC (by rw [e_]; rfl))
            have HO2 := RecO.snoc HO (by decide) (Bod.new HC hgC) N_ hc hbb
            have hK0 := Kf.row (g := none) HO.1 hc hbb
            have hK := hK0.any g2
            replace HJ := HJ.kf hK (by decide) (by decide)
            replace HF := HF.kf0 hK0 (by decide) (by decide)
            replace HU := own_kf HU hK (by decide) (by decide)
            replace HBd := HBd.kf hK (by decide) (.inl rfl)
            replace HX := HX.trans hc (fun k_ hk_ e => by first | exact .inl e | (rcases e with e | e; exact .inr (.inl e); exact .inr (.inr (.inl e))) | exact .inr (.inr (.inr (.inl e))) | exact .inr (.inr (.inr (.inr e))) | (exfalso; omega))
            replace HXr := HXr.chg hc (hxo)
            replace HS := HS.trans hK.low
            replace HB := HB.trans hK.low
            replace HK := HK.trans (hK.ts (by decide)) hg2
            clear hK hK0
            clear hbb hc hrow HO N_
            have HO := HO2
            clear HO2
            refine Fw.hNext ⟨HS, HXr⟩ ?_
            refine Fw.hTk 9 rfl rfl (Fw.yV (Fw.val_nil rfl)) rfl ?_
            refine Fw.hTk 10 rfl rfl (Fw.yV (Fw.val_fieldAddr fl62_1 rfl rfl)) rfl ?_
            refine Fw.hAll1 11 (by kernel_rfl) ?_
            refine Fw.hOp 11 rfl ?_
            refine Fw.store sz59 rfl rfl HJ rfl rfl rfl ?_
            intro w17 N_ hc
            have hK0 := Kf.box (B := B) (g := none) HJ hc (by omega)
            have hK := hK0.any g2
            replace HF := HF.kf0 hK0 (by decide) (by decide)
            replace HO := HO.kf hK (by decide) (by decide) (by decide) (.inl rfl)
            replace HU := own_kf HU hK (by decide) (by decide)
            replace HBd := HBd.kf hK (by decide) (.inl rfl)
            replace HX := HX.trans hc (fun k_ hk_ e => by first | exact .inl e | (rcases e with e | e; exact .inr (.inl e); exact .inr (.inr (.inl e))) | exact .inr (.inr (.inr (.inl e))) | exact .inr (.inr (.inr (.inr e))) | (exfalso; omega))
            replace HXr := HXr.kf hK (by decide) (by decide)
            replace HS := HS.trans hK.low
            replace HB := HB.trans hK.low
            replace HK := HK.trans (hK.ts (by decide)) hg2
            clear hK hK0
            clear hc
            clear HJ
            have HJ := N_
            clear N_
            refine Fw.hNext ⟨HS, HXr⟩ ?_
            refine Fw.hDone (by kernel_rfl) ?_
            have HJX : ∃ (v' : Rv) (A1_ : Option Addr) (c1_ : Nat), v'.r = (⟨k, b⟩ : Jr.R) ∧ Blk _ p 62 #[.pointer (some ⟨pf, 0, none⟩), .slice A1_ (L ++ [v']).length c1_, .slice A2 (Jr.sums (rs L)).length c2] ∧ RecO _ g2 B B 64 A1_ c1_ (L ++ [v']) ∧ (∀ k_, A1_.map (·.block) = some k_ → A1.map (·.block) = some k_ ∨ w.heap.size ≤ k_) ∧ (∀ ad, v'.A = some ad → w.heap.size ≤ ad.block) := ⟨(⟨k, b, A43, c43⟩ : Rv), _, _, rfl, HJ, HO, hA1_, hbn⟩
            exact hK13 _ _ ⟨HX, HJX, HF, HU, HK, HB⟩ (.cons rfl (.cons rfl .nil))
          · skip
            refine Fw.hOp 7 rfl ?_
            refine Fw.buildSlice [_] sl59 rfl rfl (by exact Fw.allSz rfl) (by decide) rfl ?_
            intro w18 gS44 egS44 HS44 hb
            have rgS44 : w4.heap.size ≤ gS44 := by have := HS.size; omega
            have n_p_gS44 : p < gS44 := by have := HJ.lt; omega
            have n_gXr_gS44 : gXr < gS44 := by have := HXr.lt; omega
            have lgS44 : B ≤ gS44 := by have := (Nat.le_trans hBw HB.size); omega
            replace HJ := HJ.low hb
            replace HF := HF.low_ hb
            replace HO := HO.low hb (Nat.le_trans hBw HB.size)
            replace HU := own_below HU hb (Nat.le_refl _)
            replace HBd := HBd.low hb (Nat.le_trans hBw HB.size)
            replace HK := HK.trans (Kf.below TS _ hb (Nat.le_trans hBw HB.size)) (.inl rfl)
            replace HX := HX.trans (Chg.of_below hb _) (fun _ _ h => h)
            replace HXr := HXr.low hb
            replace HS := HS.trans (hb.mono (Nat.le_trans hBr HS.size))
            replace HC := own_below HC hb (Nat.le_refl _)
            replace HB := HB.trans (hb.mono (Nat.le_trans hBw HB.size))
            clear hb
            clear egS44
            refine Fw.hNext ⟨HS, HXr⟩ ?_
            refine Fw.hAll1 4 (by kernel_rfl) ?_
            refine Fw.hOp 4 rfl ?_
            refine Fw.ld sc59 rfl (HJ.cell 1) rfl ?_
            refine Fw.hNext ⟨HS, HXr⟩ ?_
            refine Fw.hAll1 8 (by kernel_rfl) ?_
            refine Fw.hOp 8 rfl ?_
            refine Fw.append (base := B) (L ++ [(⟨k, b, A43, c43⟩ : Rv)]).length ((L ++ [(⟨k, b, A43, c43⟩ : Rv)]).flatMap Rv.cells) sl59 rfl rfl HO.1 (Fw.rdBlk HS44) rfl (Fw.oneCellsL rfl) (by unfold maxLen; omega) (Nat.le_trans hBw HB.size) (by simp) (by rw [List.flatMap_append]; rfl) rfl ?_
            intro A45 c45 w19 N_ hbb hc hrow
            have hA1_ : ∀ k_, A45.map (·.block) = some k_ → A1.map (·.block) = some k_ ∨ w.heap.size ≤ k_ := fun k_ e_ => by
              rcases hrow with h_ | h_
              · left; exact (ownBlock_slice A1 L.length c1).symm.trans (h_.symm.trans e_)
              · right; rw [h_] at e_; injection e_ with e_; have := HB.size; omega
            have hbn : ∀ ad, A43 = some ad → w.heap.size ≤ ad.block := fun ad e_ => Nat.le_trans hszC (Fw.own_lo HC (by rw [e_]; rfl))
            have HO2 := RecO.snoc HO (by decide) (Bod.new HC hgC) N_ hc hbb
            have hK0 := Kf.row (g := none) HO.1 hc hbb
            have hK := hK0.any g2
            replace HJ := HJ.kf hK (by decide) (by decide)
            replace HF := HF.kf0 hK0 (by decide) (by decide)
            replace HU := own_kf HU hK (by decide) (by decide)
            replace HBd := HBd.kf hK (by decide) (.inl rfl)
            replace HX := HX.trans hc (fun k_ hk_ e => by first | exact .inl e | (rcases e with e | e; exact .inr (.inl e); exact .inr (.inr (.inl e))) | exact .inr (.inr (.inr (.inl e))) | exact .inr (.inr (.inr (.inr e))) | (exfalso; omega))
            replace HXr := HXr.chg hc (hxo)
            replace HS := HS.trans hK.low
            replace HB := HB.trans hK.low
            replace HK := HK.trans (hK.ts (by decide)) hg2
            clear hK hK0
            clear hbb hc hrow HO N_
            have HO := HO2
            clear HO2
            refine Fw.hNext ⟨HS, HXr⟩ ?_
            refine Fw.hTk 9 rfl rfl (Fw.yV (Fw.val_nil rfl)) rfl ?_
            refine Fw.hTk 10 rfl rfl (Fw.yV (Fw.val_fieldAddr fl62_1 rfl rfl)) rfl ?_
            refine Fw.hAll1 11 (by kernel_rfl) ?_
            refine Fw.hOp 11 rfl ?_
            refine Fw.store sz59 rfl rfl HJ rfl rfl rfl ?_
            intro w20 N_ hc
            have hK0 := Kf.box (B := B) (g := none) HJ hc (by omega)
            have hK := hK0.any g2
            replace HF := HF.kf0 hK0 (by decide) (by decide)
            replace HO := HO.kf hK (by decide) (by decide) (by decide) (.inl rfl)
            replace HU := own_kf HU hK (by decide) (by decide)
            replace HBd := HBd.kf hK (by decide) (.inl rfl)
            replace HX := HX.trans hc (fun k_ hk_ e => by first | exact .inl e | (rcases e with e | e; exact .inr (.inl e); exact .inr (.inr (.inl e))) | exact .inr (.inr (.inr (.inl e))) | exact .inr (.inr (.inr (.inr e))) | (exfalso; omega))
            replace HXr := HXr.kf hK (by decide) (by decide)
            replace HS := HS.trans hK.low
            replace HB := HB.trans hK.low
            replace HK := HK.trans (hK.ts (by decide)) hg2
            clear hK hK0
            clear hc
            clear HJ
            have HJ := N_
            clear N_
            refine Fw.hNext ⟨HS, HXr⟩ ?_
            refine Fw.hDone (by kernel_rfl) ?_
            have HJX : ∃ (v' : Rv) (A1_ : Option Addr) (c1_ : Nat), v'.r = (⟨k, b⟩ : Jr.R) ∧ Blk _ p 62 #[.pointer (some ⟨pf, 0, none⟩), .slice A1_ (L ++ [v']).length c1_, .slice A2 (Jr.sums (rs L)).length c2] ∧ RecO _ g2 B B 64 A1_ c1_ (L ++ [v']) ∧ (∀ k_, A1_.map (·.block) = some k_ → A1.map (·.block) = some k_ ∨ w.heap.size ≤ k_) ∧ (∀ ad, v'.A = some ad → w.heap.size ≤ ad.block) := ⟨(⟨k, b, A43, c43⟩ : Rv), _, _, rfl, HJ, HO, hA1_, hbn⟩
            exact hK13 _ _ ⟨HX, HJX, HF, HU, HK, HB⟩ (.cons rfl (.cons rfl .nil))

end Go.Proofs.Ytgpdodhegacndaa
