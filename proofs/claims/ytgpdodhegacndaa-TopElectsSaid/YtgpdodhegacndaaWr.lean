/- Package wire: the walks of Writer and Reader (integers alone). -/
import Derived.Test.YtgpdodhegacndaaProg
import Derived.Test.YtgpdodhegacndaaLib
import Derived.Test.YtgpdodhegacndaaSl
import Derived.Test.YtgpdodhegacndaaWrMath
import Derived.RegionTactic
import Derived.BigRegion
import Derived.Deep.QuietTactic
import Derived.BigQuiet
import Derived.StillTailTactics
import Derived.Deep.DeepCutAuto
import Derived.Laws.ResultCell
namespace Go.Proofs.Ytgpdodhegacndaa
set_option linter.unusedSimpArgs false
set_option linter.unusedVariables false
open Go.RowKit


namespace Wr
theorem zz_bits {n : Int} (h : I64 n) : bits .xor .u64 (IntKind.u64.wrap (IntKind.u64.wrap n * 2)) (IntKind.u64.wrap (n / 9223372036854775808)) = ((Lib.zigzag n : Nat) : Int) := by
  obtain ⟨h0, h1⟩ := h
  by_cases hn : 0 ≤ n
  · have e1 : IntKind.u64.wrap (IntKind.u64.wrap n * 2) = ((2 * n).toNat : Nat) := by rw [IntKind.wrap_u64, IntKind.wrap_u64]; omega
    have e2 : IntKind.u64.wrap (n / 9223372036854775808) = ((0 : Nat) : Int) := by rw [IntKind.wrap_u64]; omega
    rw [e1, e2, bits_xor_u64_nat _ _ (by omega) (by omega), Nat.xor_zero]
    unfold Lib.zigzag; rw [if_pos hn]
  · have e1 := Lib.zigzag_neg h0 (by omega : n < 0)
    have e2 : IntKind.u64.wrap (n / 9223372036854775808) = IntKind.u64.max := by
      rw [IntKind.wrap_u64, show IntKind.u64.max = 18446744073709551615 by decide]; omega
    rw [e2, ← e1]
    have e3 : IntKind.u64.wrap (IntKind.u64.wrap n * 2) = (((2 * n + 18446744073709551616).toNat : Nat) : Int) := by rw [IntKind.wrap_u64, IntKind.wrap_u64]; omega
    have e4 : IntKind.u64.max = ((2 ^ 64 - 1 : Nat) : Int) := by decide
    rw [e3, e4, bits_xor_u64_nat _ _ (by omega) (by decide), bits_xor_u64_nat _ _ (by decide) (by omega), Nat.xor_comm]
theorem byte_or {v : Nat} (h : v < 18446744073709551616) : bits .or .u8 ((v : Int) % 256) 128 = ((v : Int) % 128 + 128) := by
  rw [Lib.u8_or128_any _ (by omega) (by omega)]; omega
end Wr

/-- a *wire.Writer at block p that has written l -/
def WrAt (w : World) (B p : Nat) (l : List Int) : Prop :=
  B ≤ p ∧ ∃ A c, Blk w p 78 #[.slice A l.length c] ∧ w.ownsRow B 5 1 (.slice A l.length c) l.length (l.map (.int .u8))
theorem WrAt.low {w w' : World} {B p : Nat} {l : List Int} (h : WrAt w B p l) (hb : Below w.heap.size w w') : WrAt w' B p l := by
  obtain ⟨hB, A, c, hk, ho⟩ := h
  exact ⟨hB, A, c, hk.low hb, own_below ho hb (Nat.le_refl _)⟩

set_option maxRecDepth 100000 in
set_option maxHeartbeats 400000 in
theorem writerInt_any (w : World) (B p : Nat) (l : List Int) (n : Int) (h : WrAt w B p l) (hn : Wr.I64 n) (hl : l.length ≤ 1000000) :
    Calls Try.prog 29 #[.pointer (some ⟨p, 0, none⟩), .int .i64 n] w fun e w' => e = .returned (.tuple #[]) ∧ WrAt w' B p (l ++ Wr.enc n) ∧ Below B w w' := by
  have HW := Lib.hid h
  have HZ := Lib.hid (Wr.zz_bits hn)
  have HE := Lib.hid (Wr.enc_len hn)
  have HZL := Lib.hid (Lib.zigzag_lt hn.1 hn.2)
  obtain ⟨hn0, hn1⟩ := hn
  clear h
  go_enter Try.func29, Try.ntmps29
  go_wp2_with fail
  go_loopw [4] (fun u wr => ∃ (v : Nat) (d : List Int), u = .int .u64 v ∧ Hid (v < 18446744073709551616 ∧ d ++ Wr.vint v = Wr.enc n ∧ WrAt wr B p (l ++ d) ∧ Below B w wr)) (fun u _ => (intOf u).toNat)
  case atStart => exact ⟨Lib.zigzag n, [], congrArg _ HZ.out, ⟨HZL.out, rfl, by rw [List.append_nil]; exact HW.out, Below.refl _ _⟩⟩
  case round =>
    obtain ⟨v, d, rfl, hrel⟩ := hrel
    obtain ⟨hv, hd, ⟨hB, A, c, hb, hown⟩, hbel⟩ := hrel.out
    clear hrel
    have hdl : d.length + (Wr.vint v).length ≤ 10 := by rw [← List.length_append, hd]; exact HE.out
    have hvp := Wr.vint_pos v
    have h0 := hb.cell 0
    have f0 := hb.frozen 0
    simp only [List.getElem?_toArray, List.getElem?_cons_zero] at h0
    have hlen : (l ++ d).length = l.length + d.length := List.length_append
    rw [hlen] at h0
    have HL := Lib.hid hlen
    rw [hlen] at hown hb
    have HB := Lib.hid hb
    have HO := Lib.hid hown
    have hne := own_ne hown hb (by decide)
    have HD := Lib.hid hd
    have HBEL := Lib.hid hbel
    have HSZ := Lib.hid (Nat.le_trans hB (Nat.le_of_lt hb.lt))
    clear hb hown hd hbel hlen
    by_cases hge : 128 ≤ v
    · have HBO := Lib.hid (Wr.byte_or hv)
      have hbo := HBO.out
      go_wp2_with (at_builtin; refine wpList_app (l.length + d.length + 1) ((l ++ (d ++ [((v : Int) % 128 + 128)])).map (.int .u8)) rfl rfl slU8 (own_below HO.out ((Below.refl _ _).alloc (Nat.le_refl _) _) (Nat.le_refl _)) rfl (Rd.one wr (.int .u8 ((v : Int) % 128 + 128)) 5) rfl rfl oneCell_one (by unfold maxLen; omega) (le_alloc HSZ.out _) rfl (by simp) ?_; intro A2 c2 w2 hown2 hbel2 hgr2 _
                   rw [ownBlock_slice] at hgr2
                   have hb2 := (HB.out.alloc (.cells #[.int .u8 ((v : Int) % 128 + 128)] 5)).chg (Chg.grown hgr2) (fun e => hne e.symm)
                   have h20 := hb2.cell 0
                   have h2f := hb2.frozen 0
                   simp only [List.getElem?_toArray, List.getElem?_cons_zero] at h20
                   have HB2 := Lib.hid hb2
                   have HO2 := Lib.hid hown2
                   have HBEL2 := Lib.hid ((HBEL.out.alloc HSZ.out _).trans hbel2)
                   clear hown2 hbel2 hgr2 hb2)
      have hne2 := own_ne HO2.out HB2.out (by decide)
      have HW2 : WrAt (w2.setCell ⟨p, 0, none⟩ (.slice A2 (l.length + d.length + 1) c2)) B p (l ++ (d ++ [((v : Int) % 128 + 128)])) := by
        have hlen : (l ++ (d ++ [((v : Int) % 128 + 128)])).length = l.length + d.length + 1 := by simp; omega
        refine ⟨hB, A2, c2, ?_, ?_⟩
        · rw [hlen]; exact HB2.out.set_ 0 (.slice A2 (l.length + d.length + 1) c2)
        · have := own_to HO2.out (Chg.setCell w2 ⟨p, 0, none⟩ (.slice A2 (l.length + d.length + 1) c2)) (fun g' hg' e => hne2 (hg'.trans (congrArg some e)))
          rw [hlen]; exact this
      have HB3 := HBEL2.out.setCell hB (.slice A2 (l.length + d.length + 1) c2) (p := ⟨p, 0, none⟩)
      go_roundw
      case rel => exact ⟨v / 128, d ++ [((v : Int) % 128 + 128)], rfl, ⟨by omega, by rw [List.append_assoc, List.singleton_append, ← Wr.vint_ge hge]; exact HD.out, HW2, HB3⟩⟩
      case measure => simp [intOf]; omega
    · go_wp2_with (at_builtin; refine wpList_app (l.length + d.length + 1) ((l ++ (d ++ [(v : Int)])).map (.int .u8)) rfl rfl slU8 (own_below HO.out ((Below.refl _ _).alloc (Nat.le_refl _) _) (Nat.le_refl _)) rfl (Rd.one wr (.int .u8 (v : Int)) 5) rfl rfl oneCell_one (by unfold maxLen; omega) (le_alloc HSZ.out _) rfl (by simp) ?_; intro A2 c2 w2 hown2 hbel2 hgr2 _
                   rw [ownBlock_slice] at hgr2
                   have hb2 := (HB.out.alloc (.cells #[.int .u8 (v : Int)] 5)).chg (Chg.grown hgr2) (fun e => hne e.symm)
                   have h20 := hb2.cell 0
                   have h2f := hb2.frozen 0
                   simp only [List.getElem?_toArray, List.getElem?_cons_zero] at h20
                   have HB2 := Lib.hid hb2
                   have HO2 := Lib.hid hown2
                   have HBEL2 := Lib.hid ((HBEL.out.alloc HSZ.out _).trans hbel2)
                   clear hown2 hbel2 hgr2 hb2)
      have hne2 := own_ne HO2.out HB2.out (by decide)
      have HW2 : WrAt (w2.setCell ⟨p, 0, none⟩ (.slice A2 (l.length + d.length + 1) c2)) B p (l ++ (d ++ [(v : Int)])) := by
        have hlen : (l ++ (d ++ [(v : Int)])).length = l.length + d.length + 1 := by simp; omega
        refine ⟨hB, A2, c2, ?_, ?_⟩
        · rw [hlen]; exact HB2.out.set_ 0 (.slice A2 (l.length + d.length + 1) c2)
        · have := own_to HO2.out (Chg.setCell w2 ⟨p, 0, none⟩ (.slice A2 (l.length + d.length + 1) c2)) (fun g' hg' e => hne2 (hg'.trans (congrArg some e)))
          rw [hlen]; exact this
      have HB3 := HBEL2.out.setCell hB (.slice A2 (l.length + d.length + 1) c2) (p := ⟨p, 0, none⟩)
      go_end0
      refine ⟨rfl, ?_, HB3⟩
      have := HD.out
      rw [Wr.vint_lt (by omega)] at this
      rw [← this]; exact HW2
end Go.Proofs.Ytgpdodhegacndaa
