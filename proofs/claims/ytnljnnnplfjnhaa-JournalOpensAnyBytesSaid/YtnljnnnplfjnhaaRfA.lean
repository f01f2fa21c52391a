/- The reference of layer 5: All over integers, and Reader. -/
import Derived.Test.YtnljnnnplfjnhaaRf
namespace Go.Proofs.Ytnljnnnplfjnhaa
set_option linter.unusedSimpArgs false
set_option linter.unusedVariables false
open Go.RowKit

namespace Wr
def encs (l : List Int) : List Int := l.flatMap enc
theorem encs_take {l : List Int} {k : Nat} (h : k < l.length) : encs (l.take (k + 1)) = encs (l.take k) ++ enc l[k] := by
  unfold encs; rw [List.take_succ_eq_append_getElem h, List.flatMap_append]; simp
theorem encs_len : ∀ {l : List Int}, (∀ x ∈ l, I64 x) → (encs l).length ≤ 10 * l.length
  | [], _ => by simp [encs]
  | x :: l, h => by
    have h1 := enc_len (h x (by simp))
    have h2 := encs_len (l := l) (fun y hy => h y (by simp [hy]))
    have e : encs (x :: l) = enc x ++ encs l := by simp [encs]
    rw [e, List.length_append, List.length_cons]; omega
end Wr

/-- a slice of integers to be encoded -/
def Things (w : World) (A : Option Addr) (l : List Int) : Prop :=
  ∀ k, (h : k < l.length) → ∃ ad b o, A = some ad ∧ ad.add (k * 5) = ⟨b, o, none⟩ ∧ w.cell? ⟨b, o, none⟩ = some (.int .i64 0) ∧ w.cell? ⟨b, o + 1, none⟩ = some (.int .i64 l[k]) ∧
    w.cell? ⟨b, o + 2, none⟩ = some (.bool false) ∧ w.cell? ⟨b, o + 3, none⟩ = some (.string ByteArray.empty) ∧ w.cell? ⟨b, o + 4, none⟩ = some (.slice none 0 0)
theorem Things.low {w w' : World} {A : Option Addr} {l : List Int} (h : Things w A l) (hb : Below w.heap.size w w') : Things w' A l := fun k hk => by
  obtain ⟨ad, b, o, e, ha, h0, h1, h2, h3, h4⟩ := h k hk
  have up : ∀ {p : Addr} {v : Value}, w.cell? p = some v → w'.cell? p = some v := fun {p v} hc => (hb.cell (World.block_lt_of_cell? w p hc)).trans hc
  exact ⟨ad, b, o, e, ha, up h0, up h1, up h2, up h3, up h4⟩

/-- a *samaritanref05.Reader at block p -/
def RfAt (w : World) (p : Nat) (r : Wr.R) : Prop :=
  ∃ A c, Blk w p 92 #[.slice A r.l.length c, .int .i64 r.e] ∧ Rd w A (r.l.map (.int .u8)) ∧ r.l.length ≤ c ∧ c ≤ maxLen ∧ ∀ ad, A = some ad → ad.block < p
theorem RfAt.low {w w' : World} {p : Nat} {r : Wr.R} (h : RfAt w p r) (hb : Below w.heap.size w w') : RfAt w' p r := by
  obtain ⟨A, c, h1, h2, h3⟩ := h
  exact ⟨A, c, h1.low hb, h2.low hb, h3⟩

theorem RfAt.chg {S : Nat → Prop} {w w' : World} {p : Nat} {r : Wr.R} (h : RfAt w p r) (hc : Chg S w w') (hs : ∀ k, S k → p < k) : RfAt w' p r := by
  obtain ⟨A, c, h1, h2, h3, h4, h5⟩ := h
  exact ⟨A, c, h1.chg hc (fun h => Nat.lt_irrefl _ (hs _ h)), h2.chg hc (fun ad e h => Nat.lt_asymm (hs _ h) (h5 ad e)), h3, h4, h5⟩

theorem rf_store {w : World} {p : Nat} {A : Option Addr} {c : Nat} {l : List Int} (e x : Int) (hb : Blk w p 92 #[.slice A l.length c, .int .i64 e]) (hr : Rd w A (l.map (.int .u8))) (hc : l.length ≤ c) (hm : c ≤ maxLen) (hne : ∀ ad, A = some ad → ad.block < p) :
    RfAt (w.setCell ⟨p, 1, none⟩ (.int .i64 x)) p ⟨l, x⟩ ∧ Chg (· = p) w (w.setCell ⟨p, 1, none⟩ (.int .i64 x)) :=
  ⟨⟨A, c, hb.set_ 1 (.int .i64 x), hr.chg (Chg.setCell w ⟨p, 1, none⟩ (.int .i64 x)) (fun ad e => Nat.ne_of_lt (hne ad e)), hc, hm, hne⟩, Chg.setCell w ⟨p, 1, none⟩ (.int .i64 x)⟩
theorem rf_cut {w : World} {p : Nat} {A : Option Addr} {c : Nat} {l : List Int} (e : Int) (k : Nat) (hk : k ≤ l.length) (hb : Blk w p 92 #[.slice A l.length c, .int .i64 e]) (hr : Rd w A (l.map (.int .u8))) (hc : l.length ≤ c) (hm : c ≤ maxLen) (hne : ∀ ad, A = some ad → ad.block < p) :
    RfAt (w.setCell ⟨p, 0, none⟩ (.slice (cutA A c k 1) (l.length - k) (c - k))) p ⟨l.drop k, e⟩ ∧ Chg (· = p) w (w.setCell ⟨p, 0, none⟩ (.slice (cutA A c k 1) (l.length - k) (c - k))) := by
  have hno : ∀ ad', cutA A c k 1 = some ad' → ad'.block < p := fun ad' e => by
    obtain ⟨a2, e2, e3⟩ := cutA_block e
    rw [← e3]; exact hne a2 e2
  have hc1 := Chg.setCell w ⟨p, 0, none⟩ (.slice (cutA A c k 1) (l.length - k) (c - k))
  refine ⟨⟨cutA A c k 1, c - k, ?_, ?_, by show (l.drop k).length ≤ c - k; rw [List.length_drop]; omega, by omega, hno⟩, hc1⟩
  · show Blk _ p _ #[.slice _ (l.drop k).length _, _]
    rw [List.length_drop]
    exact hb.set_ 0 (.slice (cutA A c k 1) (l.length - k) (c - k))
  · have := (hr.cut (size := 1) c k (by simp; omega)).chg hc1 (fun ad e => Nat.ne_of_lt (hno ad e))
    rw [Nat.mul_one, ← List.map_drop] at this
    exact this

namespace Wr
theorem rf_sum {acc k : Nat} {x : Int} (hacc : acc < 128 ^ k) (hk : k ≤ 9) (hx : 0 ≤ x ∧ x < 256) (h9 : k = 9 → x = 1) :
    IntKind.u64.wrap ((acc : Int) + IntKind.u64.wrap (x % 128 * ((128 ^ k : Nat) : Int))) = ((acc + (x % 128).toNat * 128 ^ k : Nat) : Int) ∧ acc + (x % 128).toNat * 128 ^ k < 18446744073709551616 := by
  obtain ⟨y, hy⟩ := Int.eq_ofNat_of_zero_le (show 0 ≤ x % 128 by omega)
  have hy1 : y < 128 := by omega
  have hy9 : k = 9 → y = 1 := fun h => by have := h9 h; omega
  rw [hy, Int.toNat_natCast, IntKind.wrap_u64, IntKind.wrap_u64]
  have : k = 0 ∨ k = 1 ∨ k = 2 ∨ k = 3 ∨ k = 4 ∨ k = 5 ∨ k = 6 ∨ k = 7 ∨ k = 8 ∨ k = 9 := by omega
  rcases this with rfl | rfl | rfl | rfl | rfl | rfl | rfl | rfl | rfl | rfl
  · rw [show (128 : Nat) ^ 0 = 1 by decide] at hacc ⊢
    omega
  · rw [show (128 : Nat) ^ 1 = 128 by decide] at hacc ⊢
    omega
  · rw [show (128 : Nat) ^ 2 = 16384 by decide] at hacc ⊢
    omega
  · rw [show (128 : Nat) ^ 3 = 2097152 by decide] at hacc ⊢
    omega
  · rw [show (128 : Nat) ^ 4 = 268435456 by decide] at hacc ⊢
    omega
  · rw [show (128 : Nat) ^ 5 = 34359738368 by decide] at hacc ⊢
    omega
  · rw [show (128 : Nat) ^ 6 = 4398046511104 by decide] at hacc ⊢
    omega
  · rw [show (128 : Nat) ^ 7 = 562949953421312 by decide] at hacc ⊢
    omega
  · rw [show (128 : Nat) ^ 8 = 72057594037927936 by decide] at hacc ⊢
    omega
  · rw [show (128 : Nat) ^ 9 = 9223372036854775808 by decide] at hacc ⊢
    omega
theorem unzz_odd {U : Nat} (h : (U : Int) % 2 = 1) : unzz U = -((U : Int) / 2) - 1 := by unfold unzz; rw [if_pos (by omega)]; omega
theorem unzz_even {U : Nat} (h : ¬ (U : Int) % 2 = 1) : unzz U = (U : Int) / 2 := by unfold unzz; rw [if_neg (by omega)]; omega
end Wr

set_option maxRecDepth 100000 in
set_option maxHeartbeats 1000000 in
theorem refRead_any (w : World) (p : Nat) (r : Wr.R) (h : RfAt w p r) (hb : Wr.Bts r.l) :
    Calls Try.prog 49 #[.pointer (some ⟨p, 0, none⟩)] w fun e w' => e = .returned (.int .i64 (Wr.rdV r)) ∧ RfAt w' p (Wr.rdK r) ∧ Chg (· = p) w w' := by
  have HAT := Lib.hid h
  have HBT := Lib.hid hb
  obtain ⟨A, c, hblk, hr, hc, hm, hne⟩ := h
  unfold maxLen at hm
  have c0 := hblk.cell 0
  have c1 := hblk.cell 1
  have f0 := hblk.frozen 0
  have f1 := hblk.frozen 1
  simp at c0 c1
  by_cases he : r.e = 0
  · obtain ⟨l0, e0⟩ := r
    subst he
    have HX := Lib.hid (And.intro hblk (And.intro hr hne))
    clear hblk hr hne hb
    go_enter Try.func49, Try.ntmps49
    go_wp2_with fail
    go_loop [3, 4, 5] (fun u by_ i => ∃ (k acc b : Nat), k ≤ 9 ∧ k ≤ l0.length ∧ i = .int .i64 k ∧ u = .int .u64 acc ∧ by_ = .int .u64 b ∧ Hid (b = 128 ^ k ∧ acc < 128 ^ k ∧ Wr.dec k acc (l0.drop k) = Wr.dec 0 0 l0)) (fun _ _ i => 10 - (intOf i).toNat)
    case atStart => exact ⟨0, 0, 1, by omega, by omega, rfl, rfl, rfl, ⟨rfl, by decide, rfl⟩⟩
    case round =>
      obtain ⟨k, acc, b, hk, hkl, rfl, rfl, rfl, hrel⟩ := hrel
      obtain ⟨hb, hacc, hdec⟩ := hrel.out
      clear hrel
      by_cases hlt : k < l0.length
      · obtain ⟨ad, hA, hcell⟩ := HX.out.2.1 k (.int .u8 l0[k]) (by simp [hlt])
        obtain ⟨hx0, hx1⟩ := HBT.out l0[k] (List.getElem_mem hlt)
        obtain ⟨x, hx⟩ : ∃ x, l0[k] = x := ⟨_, rfl⟩
        have hdr : l0.drop k = x :: l0.drop (k + 1) := by rw [List.drop_eq_getElem_cons hlt, hx]
        rw [hx] at hcell hx0 hx1
        rw [hdr] at hdec
        have hk0 : (0 : Int) ≤ (k : Int) := by omega
        have hkl' : (k : Int) < (l0.length : Int) := by omega
        have hs : ∀ W, (Instr.slice 26 (.slice A l0.length c) (some (.int .i64 ((k : Int) + 1))) none none).run Try.prog W = .ok (.slice (cutA A c (k + 1) 1) (l0.length - (k + 1)) (c - (k + 1))) W := fun W => by
          have := run_from slU8 A l0.length c (k + 1) (by omega) W
          simpa using this
        have hbp : 0 < b := by rw [hb]; exact Nat.pow_pos (by omega)
        have HB := Lib.hid hb
        have HACC := Lib.hid hacc
        have HDEC := Lib.hid hdec
        subst hA
        clear hb hacc hdec hdr hx
        by_cases hbad : (9 ≤ k ∧ x ≠ 1) ∨ (0 < k ∧ x = 0)
        · have HR := Lib.hid (Wr.rd_e1 (r := ⟨l0, 0⟩) rfl (x := 2) (by rw [← HDEC.out]; exact Wr.dec_bad hbad))
          have HS := Lib.hid (rf_store 0 2 HX.out.1 HX.out.2.1 hc (by unfold maxLen; omega) HX.out.2.2)
          have hcase : (((k : Int) == 9) = true ∧ (x != 1) = true) ∨ (((k : Int) == 9) = false ∧ (x == 0) = true ∧ 0 < k) := by
            simp only [beq_iff_eq, bne_iff_ne, beq_eq_false_iff_ne]; omega
          clear hbad hs
          rcases hcase with ⟨hk9, hx⟩ | ⟨hk9, hx, hkp⟩
          all_goals
            go_wp2
            go_ret
            exact ⟨ret_int HR.out.2.1.symm, by rw [HR.out.2.2]; exact HS.out.1, HS.out.2⟩
        · have hlt9 : k = 9 → x = 1 := fun h => by omega
          have hUl := (Wr.rf_sum HACC.out hk ⟨hx0, hx1⟩ hlt9).2
          obtain ⟨U, hU⟩ : ∃ U, acc + (x % 128).toNat * 128 ^ k = U := ⟨_, rfl⟩
          rw [hU] at hUl
          have hso : IntKind.u64.wrap ((acc : Int) + IntKind.u64.wrap (x % 128 * (b : Int))) = (U : Int) := by rw [HB.out, ← hU]; exact (Wr.rf_sum HACC.out hk ⟨hx0, hx1⟩ hlt9).1
          have HUL := Lib.hid hUl
          have hU2 : (U : Int) / 2 ≤ 9223372036854775807 := by omega
          by_cases h128 : x < 128
          · have hdd : Wr.dec 0 0 l0 = .ok (U, l0.drop (k + 1)) := by rw [← HDEC.out, Wr.dec_end hbad h128, ← hU, show x % 128 = x by omega]
            have HR := Lib.hid (Wr.rd_e0 (r := ⟨l0, 0⟩) rfl hdd)
            have HS := Lib.hid (rf_cut 0 (k + 1) (by omega) HX.out.1 HX.out.2.1 hc (by unfold maxLen; omega) HX.out.2.2)
            have hcase : (((k : Int) == 9) = true ∧ (x != 1) = false ∧ (x == 0) = false) ∨ (((k : Int) == 9) = false ∧ (x == 0) = true ∧ ¬ 0 < k) ∨ (((k : Int) == 9) = false ∧ (x == 0) = false) := by
              simp only [beq_iff_eq, bne_eq_false_iff_eq, beq_eq_false_iff_ne]; omega
            clear hbad hdd hlt9 hU hUl
            by_cases hpar : (U : Int) % 2 = 1
            all_goals
              have HV := Lib.hid (by first | exact Wr.unzz_odd hpar | exact Wr.unzz_even hpar)
              have hq : ((U : Int) % 2 == 1) = decide ((U : Int) % 2 = 1) := rfl
              simp only [hpar, decide_true, decide_false] at hq
              rcases hcase with ⟨h9, hx1', hx0'⟩ | ⟨h9, hx0', hkz⟩ | ⟨h9, hx0'⟩
              all_goals
                go_wp2
                go_ret
                exact ⟨ret_int (by rw [HR.out.2.1, HV.out]), by rw [HR.out.2.2]; exact HS.out.1, HS.out.2⟩
          · have hdd : Wr.dec (k + 1) U (l0.drop (k + 1)) = Wr.dec 0 0 l0 := by rw [← HDEC.out, Wr.dec_on hbad h128, hU]
            have hk8 : k ≤ 8 := by omega
            have hacc3 : U < 128 ^ (k + 1) := by
              rw [← hU, Nat.pow_succ]
              have hm : (x % 128).toNat * 128 ^ k ≤ 127 * 128 ^ k := Nat.mul_le_mul_right _ (by omega)
              have := HACC.out
              omega
            have hb8 : b ≤ 72057594037927936 := by rw [HB.out]; exact Nat.le_trans (Nat.pow_le_pow_right (by omega) hk8) (by decide)
            have HN := Lib.hid (And.intro hacc3 hdd)
            have HB2 := Lib.hid (show b * 128 = 128 ^ (k + 1) by rw [Nat.pow_succ, HB.out])
            have hcase : ((k : Int) == 9) = false ∧ (x == 0) = false := by
              simp only [beq_iff_eq, beq_eq_false_iff_ne]; omega
            clear hbad hdd hlt9 hacc3 hU hUl hs
            obtain ⟨h9, hx0'⟩ := hcase
            all_goals
              go_wp2
              go_round
              case rel => exact ⟨k + 1, U, b * 128, by omega, by omega, by go_num, rfl, by go_num, ⟨HB2.out, HN.out.1, HN.out.2⟩⟩
              case measure => simp [intOf] <;> omega
      · obtain rfl : k = l0.length := by omega
        have HR := Lib.hid (Wr.rd_e1 (r := ⟨l0, 0⟩) rfl (x := 11) (by rw [← hdec, List.drop_length]; rfl))
        have HS := Lib.hid (rf_store 0 11 HX.out.1 HX.out.2.1 hc (by unfold maxLen; omega) HX.out.2.2)
        clear hb hacc hdec
        go_wp2
        go_ret
        exact ⟨ret_int HR.out.2.1.symm, by rw [HR.out.2.2]; exact HS.out.1, HS.out.2⟩
  · have hq : (r.e != 0) = true := by simpa using he
    have HR := Lib.hid (Wr.rd_bad he)
    clear hblk hr hne hb he
    go_enter Try.func49, Try.ntmps49
    go_wp2
    go_ret
    exact ⟨ret_int HR.out.2.1.symm, by rw [HR.out.2.2]; exact HAT.out, Chg.refl _ _⟩
end Go.Proofs.Ytnljnnnplfjnhaa
