/- Package wire: the walk of Reader.Int. -/
import Derived.Test.YtgpdodhegacndaaRd
namespace Go.Proofs.Ytgpdodhegacndaa
set_option linter.unusedSimpArgs false
set_option linter.unusedVariables false
open Go.RowKit

namespace Wr
def Bts (l : List Int) : Prop := ∀ x ∈ l, 0 ≤ x ∧ x < 256
theorem shl_or' {acc k : Nat} {x : Int} (hacc : acc < 128 ^ k) (hk : k ≤ 9) (hx : 0 ≤ x ∧ x < 256) (h9 : k = 9 → x = 1) :
    bits .or .u64 (acc : Int) (IntKind.u64.wrap (IntKind.u64.wrap (bits .and .u8 x 127) * 2 ^ (7 * k))) = ((acc + (x % 128).toNat * 128 ^ k : Nat) : Int) := by
  rw [u8_and127 x hx.1 hx.2, show IntKind.u64.wrap (x % 128) = x % 128 by rw [IntKind.wrap_u64]; omega, ← shl_or hacc hk hx h9, show (7 * (k : Int)).toNat = 7 * k by omega]
theorem fin_bits {u : Nat} (h : u < 18446744073709551616) : bits .xor .i64 (wrap64 ((u : Int) / 2)) (wrap64 (-wrap64 (bits .and .u64 (u : Int) 1))) = unzz u := by
  rw [Lib.u64_and1 _ (by omega) (by omega)]
  have e1 : wrap64 ((u : Int) / 2) = ((u / 2 : Nat) : Int) := by unfold wrap64; omega
  unfold unzz
  by_cases hu : u % 2 = 1
  · have e2 : wrap64 (-wrap64 ((u : Int) % 2)) = -1 := by
      rw [show (u : Int) % 2 = 1 by omega]; unfold wrap64; omega
    rw [e1, e2, if_pos hu]
    have : bits .xor .i64 ((u / 2 : Nat) : Int) (-1) = bits .xor .i64 (-1) ((u / 2 : Nat) : Int) := by
      show IntKind.i64.wrap ((BitVec.ofInt 64 ((u / 2 : Nat) : Int) ^^^ BitVec.ofInt 64 (-1)).toNat : Int) = _
      rw [BitVec.xor_comm]; rfl
    rw [this, Lib.i64_not _ (by omega)]
  · have e2 : wrap64 (-wrap64 ((u : Int) % 2)) = 0 := by
      rw [show (u : Int) % 2 = 0 by omega]; unfold wrap64; omega
    rw [e1, e2, if_neg hu]
    show IntKind.i64.wrap ((BitVec.ofInt 64 ((u / 2 : Nat) : Int) ^^^ BitVec.ofInt 64 0).toNat : Int) = _
    have h2 : (BitVec.ofInt 64 ((u / 2 : Nat) : Int)).toNat = u / 2 := by
      rw [BitVec.ofInt_natCast, BitVec.toNat_ofNat]; exact Nat.mod_eq_of_lt (by omega)
    rw [show BitVec.ofInt 64 0 = 0#64 from rfl, BitVec.xor_zero, h2, IntKind.wrap_i64]
    omega
end Wr

set_option maxRecDepth 100000 in
set_option maxHeartbeats 1000000 in
theorem readInt_any (w : World) (p : Nat) (r : Wr.R) (h : RdAt w p r) (hb : Wr.Bts r.l) :
    Calls Try.prog 39 #[.pointer (some ⟨p, 0, none⟩)] w fun e w' => e = .returned (.int .i64 (Wr.rdV r)) ∧ RdAt w' p (Wr.rd r) ∧ Chg (· = p) w w' := by
  by_cases he : r.e = 0
  · obtain ⟨l0, e0⟩ := r
    subst he
    have H := Lib.hid h
    have HBT := Lib.hid hb
    clear h hb
    go_enter Try.func39, Try.ntmps39
    go_wp2_with fail
    go_loopw [3, 7] (fun u i wr => ∃ (k acc : Nat) (l : List Int), k ≤ 9 ∧ i = .int .i64 k ∧ u = .int .u64 acc ∧ acc < 9223372036854775808 ∧ Hid (acc < 128 ^ k ∧ Wr.dec k acc l = Wr.dec 0 0 l0 ∧ Wr.Bts l ∧ RdAt wr p ⟨l, 0⟩ ∧ Chg (· = p) w wr)) (fun _ i _ => 10 - (intOf i).toNat)
    case atStart => exact ⟨0, 0, l0, by omega, rfl, rfl, by omega, ⟨by decide, rfl, HBT.out, H.out, Chg.refl _ _⟩⟩
    case round =>
      obtain ⟨k, acc, l, hk, rfl, rfl, hacc, hrel⟩ := hrel
      obtain ⟨hacc2, hdec, hbt, hat, hchg⟩ := hrel.out
      clear hrel
      have HA := Lib.hid hacc2
      have HD := Lib.hid hdec
      have HCH := Lib.hid hchg
      cases l with
      | nil =>
        have HAT := Lib.hid hat
        have HR := Lib.hid (Wr.rd_e1 (r := ⟨l0, 0⟩) rfl (x := 11) (by rw [← hdec]; rfl))
        clear hacc2 hdec hbt hat hchg
        go_wp2_with fail
        refine (next_nil _ p HAT.out).mono ?_
        rintro e w1 ⟨rfl, h1, h2⟩
        have H1 := Lib.hid h1
        have H2 := Lib.hid h2
        clear h1 h2
        go_wp2
        go_ret
        exact ⟨ret_int HR.out.2.1.symm, by rw [HR.out.1]; exact H1.out, HCH.out.trans H2.out (fun _ _ h => h)⟩
      | cons x l =>
        have HAT := Lib.hid hat
        obtain ⟨hx0, hx1⟩ := hbt x (by simp)
        have HBL := Lib.hid (show Wr.Bts l from fun y hy => hbt y (by simp [hy]))
        by_cases hbad : (9 ≤ k ∧ x ≠ 1) ∨ (0 < k ∧ x = 0)
        · have HR := Lib.hid (Wr.rd_e1 (r := ⟨l0, 0⟩) rfl (x := 2) (by rw [← hdec]; exact Wr.dec_bad hbad))
          have hcase : (k = 9 ∧ ¬ x = 1) ∨ (x = 0 ∧ 0 < k ∧ ¬ (k : Int) = 9) := by omega
          clear hacc2 hdec hbt hat hchg hbad
          rcases hcase with ⟨rfl, hx⟩ | ⟨rfl, hk0, hk9⟩
          · skip
            go_wp2_with fail
            refine (next_cons _ p _ l HAT.out).mono ?_
            rintro e w1 ⟨rfl, h1, h2⟩
            have H1 := Lib.hid h1
            have H2 := Lib.hid (HCH.out.trans h2 (fun _ _ h => h))
            clear h1 h2
            go_wp2_with fail
            refine (fail_any _ p _ 2 H1.out).mono ?_
            rintro e w2 ⟨rfl, h1, h2⟩
            have H3 := Lib.hid h1
            have H4 := Lib.hid (H2.out.trans h2 (fun _ _ h => h))
            clear h1 h2
            go_wp2
            go_ret
            exact ⟨ret_int HR.out.2.1.symm, by rw [HR.out.1]; exact H3.out, H4.out⟩
          · skip
            go_wp2_with fail
            refine (next_cons _ p _ l HAT.out).mono ?_
            rintro e w1 ⟨rfl, h1, h2⟩
            have H1 := Lib.hid h1
            have H2 := Lib.hid (HCH.out.trans h2 (fun _ _ h => h))
            clear h1 h2
            go_wp2_with fail
            refine (fail_any _ p _ 2 H1.out).mono ?_
            rintro e w2 ⟨rfl, h1, h2⟩
            have H3 := Lib.hid h1
            have H4 := Lib.hid (H2.out.trans h2 (fun _ _ h => h))
            clear h1 h2
            go_wp2
            go_ret
            exact ⟨ret_int HR.out.2.1.symm, by rw [HR.out.1]; exact H3.out, H4.out⟩
        · have hlt : k = 9 → x = 1 := fun h => by omega
          have HSO := Lib.hid (Wr.shl_or' hacc2 hk ⟨hx0, hx1⟩ hlt)
          by_cases h128 : x < 128
          · have hdd : Wr.dec 0 0 l0 = .ok (acc + (x % 128).toNat * 128 ^ k, l) := by rw [← hdec, Wr.dec_end hbad h128, show x % 128 = x by omega]
            have HU := Lib.hid (Wr.dec_lt l0 0 0 _ l HBT.out (by omega) (by decide) hdd)
            have HR := Lib.hid (Wr.rd_e0 (r := ⟨l0, 0⟩) rfl hdd)
            have hcase : (k = 9 ∧ x = 1) ∨ (¬ (k : Int) = 9 ∧ (k = 0 ∨ (0 < k ∧ (x == 0) = false))) := by
              by_cases h9 : k = 9
              · exact .inl ⟨h9, hlt h9⟩
              · by_cases h0 : k = 0
                · exact .inr ⟨by omega, .inl h0⟩
                · exact .inr ⟨by omega, .inr ⟨by omega, by rw [beq_eq_false_iff_ne]; omega⟩⟩
            clear hacc2 hdec hbt hat hchg hbad hdd hlt
            rcases hcase with ⟨rfl, rfl⟩ | ⟨h9, rfl | ⟨hk0, hx00⟩⟩
            · skip
              go_wp2_with fail
              refine (next_cons _ p _ l HAT.out).mono ?_
              rintro e w1 ⟨rfl, h1, h2⟩
              have H1 := Lib.hid h1
              have H2 := Lib.hid (HCH.out.trans h2 (fun _ _ h => h))
              clear h1 h2
              go_wp2_with fail
              go_ret
              exact ⟨ret_int (by have := HSO.out; simp only [show (2 : Int) ^ (7 * 9) = 9223372036854775808 by decide] at this; rw [this, HR.out.2.1]; exact Wr.fin_bits HU.out), by rw [HR.out.1]; exact H1.out, H2.out⟩
            · skip
              go_wp2_with fail
              refine (next_cons _ p _ l HAT.out).mono ?_
              rintro e w1 ⟨rfl, h1, h2⟩
              have H1 := Lib.hid h1
              have H2 := Lib.hid (HCH.out.trans h2 (fun _ _ h => h))
              clear h1 h2
              go_wp2_with fail
              go_ret
              exact ⟨ret_int (by have := HSO.out; simp only [Nat.mul_zero, Int.pow_zero, Int.mul_one] at this; rw [this, HR.out.2.1]; exact Wr.fin_bits HU.out), by rw [HR.out.1]; exact H1.out, H2.out⟩
            · skip
              go_wp2_with fail
              refine (next_cons _ p _ l HAT.out).mono ?_
              rintro e w1 ⟨rfl, h1, h2⟩
              have H1 := Lib.hid h1
              have H2 := Lib.hid (HCH.out.trans h2 (fun _ _ h => h))
              clear h1 h2
              go_wp2_with fail
              go_ret
              exact ⟨ret_int (by have := HSO.out; rw [this, HR.out.2.1]; exact Wr.fin_bits HU.out), by rw [HR.out.1]; exact H1.out, H2.out⟩
          · have hdd : Wr.dec (k + 1) (acc + (x % 128).toNat * 128 ^ k) l = Wr.dec 0 0 l0 := by rw [← hdec, Wr.dec_on hbad h128]
            have hk8 : k ≤ 8 := by omega
            have hacc3 : acc + (x % 128).toNat * 128 ^ k < 128 ^ (k + 1) := by
              rw [Nat.pow_succ]
              have hm : (x % 128).toNat * 128 ^ k ≤ 127 * 128 ^ k := Nat.mul_le_mul_right _ (by omega)
              omega
            have hacc4 : acc + (x % 128).toNat * 128 ^ k < 9223372036854775808 := by
              have : (128 : Nat) ^ (k + 1) ≤ 128 ^ 9 := Nat.pow_le_pow_right (by omega) (by omega)
              have e9 : (128 : Nat) ^ 9 = 9223372036854775808 := by decide
              omega
            have HN := Lib.hid (And.intro hacc3 (And.intro hacc4 hdd))
            have hcase : ¬ (k : Int) = 9 ∧ (k = 0 ∨ (0 < k ∧ (x == 0) = false)) := by
              by_cases h0 : k = 0
              · exact ⟨by omega, .inl h0⟩
              · exact ⟨by omega, .inr ⟨by omega, by rw [beq_eq_false_iff_ne]; omega⟩⟩
            clear hacc2 hdec hbt hat hchg hbad hdd hlt hacc3 hacc4
            obtain ⟨h9, rfl | ⟨hk0, hx00⟩⟩ := hcase
            · skip
              go_wp2_with fail
              refine (next_cons _ p _ l HAT.out).mono ?_
              rintro e w1 ⟨rfl, h1, h2⟩
              have H1 := Lib.hid h1
              have H2 := Lib.hid (HCH.out.trans h2 (fun _ _ h => h))
              clear h1 h2
              go_wp2_with fail
              go_roundw
              case rel => exact ⟨0 + 1, acc + (x % 128).toNat * 128 ^ 0, l, by omega, by go_num, by have := HSO.out; simp only [Nat.mul_zero, Int.pow_zero, Int.mul_one] at this; exact congrArg _ this, HN.out.2.1, ⟨HN.out.1, HN.out.2.2, HBL.out, H1.out, H2.out⟩⟩
              case measure => simp [intOf] <;> omega
            · skip
              go_wp2_with fail
              refine (next_cons _ p _ l HAT.out).mono ?_
              rintro e w1 ⟨rfl, h1, h2⟩
              have H1 := Lib.hid h1
              have H2 := Lib.hid (HCH.out.trans h2 (fun _ _ h => h))
              clear h1 h2
              go_wp2_with fail
              go_roundw
              case rel => exact ⟨k + 1, acc + (x % 128).toNat * 128 ^ k, l, by omega, by go_num, by have := HSO.out; exact congrArg _ this, HN.out.2.1, ⟨HN.out.1, HN.out.2.2, HBL.out, H1.out, H2.out⟩⟩
              case measure => simp [intOf] <;> omega
  · have HR := Lib.hid (Wr.rd_bad he)
    have H := Lib.hid h
    have HE := Lib.hid he
    clear h hb he
    go_enter Try.func39, Try.ntmps39
    go_wp2_with fail
    go_loopw [3, 7] (fun u i wr => i = .int .i64 0 ∧ u = .int .u64 0 ∧ wr = w) (fun _ i _ => 10 - (intOf i).toNat)
    case atStart => exact ⟨rfl, rfl, rfl⟩
    case round =>
      obtain ⟨rfl, rfl, rfl⟩ := hrel
      go_wp2_with fail
      refine (next_bad _ p r H.out HE.out).mono ?_
      rintro e w1 ⟨rfl, rfl⟩
      go_wp2
      go_ret
      exact ⟨ret_int HR.out.2.1.symm, by rw [HR.out.1]; exact H.out, Chg.refl _ _⟩
end Go.Proofs.Ytgpdodhegacndaa
