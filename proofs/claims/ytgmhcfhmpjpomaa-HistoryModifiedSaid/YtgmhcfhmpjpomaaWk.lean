/- wire.Writer.Int: what else stands as it was. -/
import Derived.Test.YtgmhcfhmpjpomaaT49
import Derived.Test.YtgmhcfhmpjpomaaRdI
import Derived.Test.YtgmhcfhmpjpomaaHiC
namespace Go.Proofs.Ytgmhcfhmpjpomaa
set_option linter.unusedSimpArgs false
set_option linter.unusedVariables false
open Go.RowKit

set_option maxRecDepth 100000 in
theorem writerInt_kp (w : World) (B p : Nat) (l : List Int) (n : Int) (h : WrAt w B p l) (hn : Wr.I64 n) (hl : l.length ≤ 1000000) :
    Calls Try.prog 36 #[.pointer (some ⟨p, 0, none⟩), .int .i64 n] w fun e w' => e = .returned (.tuple #[]) ∧ WrAt w' B p (l ++ Wr.enc n) ∧ Below B w w' ∧ Fw.Kp [73, 5] w w' := by
  obtain ⟨hBp, A0, c0, HP, HO⟩ := h
  have hBw : B ≤ w.heap.size := by have := HP.lt; omega
  have HKP := Fw.Kp.refl [73, 5] w
  have hzz := Wr.zz_bits hn
  have hzl := Lib.zigzag_lt hn.1 hn.2
  have hel := Wr.enc_len hn
  have hgp : B ≤ p := hBp
  replace HO : w.ownsRow B 5 1 (.slice A0 (l.length + ([] : List Int).length) c0) (l.length + ([] : List Int).length) ((l ++ []).map (.int .u8)) := by simpa using HO
  refine Fw.calls Try.func36 rfl Try.ntmps36 rfl ?_
  have HB := Below.refl (B) w
  refine Fw.seq fun _ hK1 => ?_
  refine Fw.region ?_
  refine Fw.s (Fw.val_move rfl) rfl ?_
  refine Fw.s (Fw.val_conv Try.underlying2 Try.underlying28 rfl (rfl)) rfl ?_
  refine Fw.s (Fw.val_bin rfl rfl (Fw.b_shlC 2 (by decide) (by decide) rfl)) rfl ?_
  refine Fw.s (Fw.val_move rfl) rfl ?_
  refine Fw.s (Fw.val_bin rfl rfl (Fw.b_shrC 9223372036854775808 (by decide) (by decide) (by decide) rfl)) rfl ?_
  refine Fw.s (Fw.val_conv Try.underlying2 Try.underlying28 rfl (rfl)) rfl ?_
  refine Fw.s (Fw.val_bin rfl rfl (Fw.b_xor hzz)) rfl ?_
  refine Fw.s (Fw.val_assign rfl) rfl ?_
  refine Fw.nil ?_
  refine hK1 _ _ (Fw.FC.sub (f' := [(4, _), (0, _)]) (.cons rfl (.cons rfl .nil)) ?_)
  refine Fw.seq fun _ hK2 => ?_
  refine Fw.block ?_
  refine Fw.loop (fun m_ f_ W_ => ∃ (v : Nat) (d_ : List Int) (A_ : Option Addr) (c_ : Nat), m_ = v ∧ v < 18446744073709551616 ∧ d_ ++ Wr.vint v = Wr.enc n ∧ Blk W_ p 73 #[.slice A_ (l.length + d_.length) c_] ∧ Fw.Kp [73, 5] w W_ ∧ W_.ownsRow B 5 1 (.slice A_ (l.length + d_.length) c_) (l.length + d_.length) ((l ++ d_).map (.int .u8)) ∧ Below (B) w W_ ∧ f_ = [(4, .int .u64 v), (0, .pointer (some ⟨p, 0, none⟩))]) ⟨_, _, ⟨Lib.zigzag n, [], A0, c0, rfl, hzl, rfl, HP, HKP, HO, HB, rfl⟩, (.cons rfl (.cons rfl .nil))⟩ ?_
  clear HP HKP HO HB
  rintro m3_ _ w1 ⟨v, d_, A_, c_, hm3_, hv, hd, HP, HKP, HO, HB, rfl⟩
  have hdl : d_.length + (Wr.vint v).length ≤ 10 := by rw [← List.length_append, hd]; exact hel
  have hvp := Wr.vint_pos v
  refine Fw.seq fun _ hK4 => ?_
  refine Fw.seq fun _ hK5 => ?_
  refine Fw.region ?_
  refine Fw.s (Fw.val_move rfl) rfl ?_
  refine Fw.s2 (Fw.val_bin rfl rfl Fw.b_geq) rfl ?_ ?_
  · rintro hge
    refine Fw.nil ?_
    refine hK5 _ _ ?_
    refine Fw.condT rfl ?_
    refine Fw.skip ?_
    refine hK4 _ _ ?_
    refine Fw.block ?_
    refine Fw.seq fun _ hK7 => ?_
    refine Fw.region ?_
    refine Fw.s (Fw.val_move rfl) rfl ?_
    refine Fw.s (Fw.val_move rfl) rfl ?_
    refine Fw.s (Fw.val_nil rfl) rfl ?_
    refine Fw.s (Fw.val_fieldAddr fl73_0 rfl rfl) rfl ?_
    refine Fw.ld sc59 rfl (HP.cell 0) rfl ?_
    refine Fw.s (Fw.val_move rfl) rfl ?_
    refine Fw.s (Fw.val_conv Try.underlying28 Try.underlying5 rfl (rfl)) rfl ?_
    refine Fw.s (Fw.val_bin rfl rfl (Fw.b_or (Wr.byte_or (by omega)))) rfl ?_
    refine Fw.buildSlice [_] sl59 rfl rfl (by exact Fw.allSz rfl) (by decide) rfl ?_
    intro w2 gS22 egS22 HS22 hb
    have n_p_gS22 : p < gS22 := by have := HP.lt; omega
    have lgS22 : B ≤ gS22 := by have := (Nat.le_trans hBw HB.size); omega
    replace HP := HP.low hb
    replace HKP := HKP.low hb
    replace HO := own_below HO hb (Nat.le_refl _)
    replace HB := HB.trans (hb.mono (Nat.le_trans hBw HB.size))
    clear hb
    clear egS22
    refine Fw.append (l.length + (d_ ++ [((v : Int) % 128 + 128)]).length) ((l ++ (d_ ++ [((v : Int) % 128 + 128)])).map (.int .u8)) sl59 rfl rfl HO (show Rd _ _ [.int .u8 ((v : Int) % 128 + 128)] from Fw.rdBlk HS22) rfl (Fw.oneCellsL rfl) (by unfold maxLen; omega) (Nat.le_trans hBw HB.size) (by rw [List.length_append, List.length_singleton]; omega) (by simp) rfl ?_
    intro A23 c23 w3 N_ hbb hc _
    replace HP := HP.chg hc (fun e => own_ne HO HP (by decide) (by rw [← ownBlock_slice A_ (l.length + d_.length) c_]; exact e.symm))
    replace HKP := HKP.row hc HO rfl
    replace HB := HB.trans hbb
    clear HO hc hbb
    have HO := N_
    clear N_
    refine Fw.s (Fw.val_nil rfl) rfl ?_
    refine Fw.s (Fw.val_fieldAddr fl73_0 rfl rfl) rfl ?_
    refine Fw.store sz59 rfl rfl HP rfl rfl rfl ?_
    intro w4 N_ hc
    replace HKP := HKP.one hc HP rfl
    replace HO := own_to HO hc (fun g_ h_ e_ => own_ne HO HP (by decide) (by rw [h_, e_]))
    replace HB := HB.trans (hc.below (B := B) (fun k e => by omega) (Nat.le_trans hBw HB.size))
    clear hc
    clear HP
    have HP := N_
    clear N_
    refine Fw.nil ?_
    refine hK7 _ _ (Fw.FC.sub (f' := [(4, _), (0, _)]) (.cons rfl (.cons rfl .nil)) ?_)
    refine Fw.region ?_
    refine Fw.s (Fw.val_move rfl) rfl ?_
    refine Fw.s (Fw.val_bin rfl rfl (Fw.b_shrC 128 (by decide) (by decide) (by decide) rfl)) rfl ?_
    refine Fw.s (Fw.val_assign rfl) rfl ?_
    refine Fw.nil ?_
    refine Fw.X_blockN ?_
    refine Fw.roundEnd _ _ (by omega) ⟨v / 128, d_ ++ [((v : Int) % 128 + 128)], A23, c23, rfl, (by omega), (by rw [List.append_assoc, List.singleton_append, ← Wr.vint_ge (by omega)]; exact hd), HP, HKP, HO, HB, rfl⟩ (.cons rfl (.cons rfl .nil))
  · rintro hge
    refine Fw.nil ?_
    refine hK5 _ _ ?_
    refine Fw.condF rfl ?_
    refine Fw.exit ?_
    refine Fw.X_exit ?_
    refine Fw.X_exit ?_
    refine Fw.X_block ?_
    refine hK2 _ _ ?_
    refine Fw.region ?_
    refine Fw.s (Fw.val_move rfl) rfl ?_
    refine Fw.s (Fw.val_move rfl) rfl ?_
    refine Fw.s (Fw.val_nil rfl) rfl ?_
    refine Fw.s (Fw.val_fieldAddr fl73_0 rfl rfl) rfl ?_
    refine Fw.ld sc59 rfl (HP.cell 0) rfl ?_
    refine Fw.s (Fw.val_move rfl) rfl ?_
    refine Fw.s (Fw.val_conv Try.underlying28 Try.underlying5 rfl (show IntKind.u8.wrap (v : Int) = (v : Int) by rw [IntKind.wrap_u8]; omega)) rfl ?_
    refine Fw.buildSlice [_] sl59 rfl rfl (by exact Fw.allSz rfl) (by decide) rfl ?_
    intro w5 gS35 egS35 HS35 hb
    have n_p_gS35 : p < gS35 := by have := HP.lt; omega
    have lgS35 : B ≤ gS35 := by have := (Nat.le_trans hBw HB.size); omega
    replace HP := HP.low hb
    replace HKP := HKP.low hb
    replace HO := own_below HO hb (Nat.le_refl _)
    replace HB := HB.trans (hb.mono (Nat.le_trans hBw HB.size))
    clear hb
    clear egS35
    refine Fw.append (l.length + (d_ ++ [(v : Int)]).length) ((l ++ (d_ ++ [(v : Int)])).map (.int .u8)) sl59 rfl rfl HO (show Rd _ _ [.int .u8 (v : Int)] from Fw.rdBlk HS35) rfl (Fw.oneCellsL rfl) (by unfold maxLen; omega) (Nat.le_trans hBw HB.size) (by rw [List.length_append, List.length_singleton]; omega) (by simp) rfl ?_
    intro A36 c36 w6 N_ hbb hc _
    replace HP := HP.chg hc (fun e => own_ne HO HP (by decide) (by rw [← ownBlock_slice A_ (l.length + d_.length) c_]; exact e.symm))
    replace HKP := HKP.row hc HO rfl
    replace HB := HB.trans hbb
    clear HO hc hbb
    have HO := N_
    clear N_
    refine Fw.s (Fw.val_nil rfl) rfl ?_
    refine Fw.s (Fw.val_fieldAddr fl73_0 rfl rfl) rfl ?_
    refine Fw.store sz59 rfl rfl HP rfl rfl rfl ?_
    intro w7 N_ hc
    replace HKP := HKP.one hc HP rfl
    replace HO := own_to HO hc (fun g_ h_ e_ => own_ne HO HP (by decide) (by rw [h_, e_]))
    replace HB := HB.trans (hc.below (B := B) (fun k e => by omega) (Nat.le_trans hBw HB.size))
    clear hc
    clear HP
    have HP := N_
    clear N_
    refine Fw.nil ?_
    refine Fw.end_ [] [] Try.results36 .nil ?_
    rw [Wr.vint_lt (by omega)] at hd
    rw [← hd]
    exact ⟨rfl, ⟨hBp, A36, c36, by rw [List.length_append]; exact HP, by rw [List.length_append]; exact HO⟩, HB, HKP⟩
end Go.Proofs.Ytgmhcfhmpjpomaa
