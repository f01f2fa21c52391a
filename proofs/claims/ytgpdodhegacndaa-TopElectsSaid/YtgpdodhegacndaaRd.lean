/- Package wire: what was written, and the walks of Reader (integers alone). -/
import Derived.Test.YtgpdodhegacndaaWr
import Derived.Test.YtgpdodhegacndaaMem
namespace Go.Proofs.Ytgpdodhegacndaa
set_option linter.unusedSimpArgs false
set_option linter.unusedVariables false
open Go.RowKit


set_option maxRecDepth 100000 in
theorem encoded_any (w : World) (B p : Nat) (l : List Int) (h : WrAt w B p l) (hl : l.length ≤ 1000000) :
    Calls Try.prog 31 #[.pointer (some ⟨p, 0, none⟩)] w fun e w' => ∃ A c, e = .returned (.slice A l.length c) ∧ w'.ownsRow w.heap.size 5 1 (.slice A l.length c) l.length (l.map (.int .u8)) ∧ Below w.heap.size w w' := by
  obtain ⟨hB, A, c, hb, hown⟩ := h
  have h0 := hb.cell 0
  simp only [List.getElem?_toArray, List.getElem?_cons_zero] at h0
  have HR := Lib.hid (Rd.of_own hown)
  have HB := Lib.hid hb
  clear hb hown
  go_enter Try.func31, Try.ntmps31
  go_wp2_with (first
    | (at_make; refine wpList_mk l.length (.int .u8 0) rfl rfl slU8 u8zero rfl rfl rfl rfl (by omega) (by unfold maxLen; omega) (Nat.le_refl _) ?_; intro w1 hown1 hb1
       have hb1' := HB.out.low hb1
       have h10 := hb1'.cell 0
       simp only [List.getElem?_toArray, List.getElem?_cons_zero] at h10
       have HR1 := Lib.hid (HR.out.low hb1)
       have HO1 := Lib.hid hown1
       have HB1 := Lib.hid hb1
       clear hown1 hb1 hb1')
    | (refine wpList_cp (l.map (.int .u8)) rfl rfl slU8 HO1.out rfl HR1.out rfl (by simp) (Nat.le_refl _) oneCell_ints HB1.out.size ?_; intro w2 hown2 hb2
       have HO2 := Lib.hid hown2
       have HB2 := Lib.hid (HB1.out.trans hb2)
       clear hown2 hb2))
  go_ret
  exact ⟨_, _, rfl, HO2.out, HB2.out⟩

/-- a *wire.Reader at block p -/
def RdAt (w : World) (p : Nat) (r : Wr.R) : Prop :=
  ∃ A c, Blk w p 104 #[.slice A r.l.length c, .int .i64 r.e] ∧ Rd w A (r.l.map (.int .u8)) ∧ r.l.length ≤ c ∧ c ≤ maxLen ∧ ∀ ad, A = some ad → ad.block ≠ p ∧ ∃ cs fr, w.heap[ad.block]? = some (Obj.cells cs 5 fr)
theorem RdAt.low {w w' : World} {p : Nat} {r : Wr.R} (h : RdAt w p r) (hb : Below w.heap.size w w') : RdAt w' p r := by
  obtain ⟨A, c, h1, h2, h3, h4, h5⟩ := h
  refine ⟨A, c, h1.low hb, h2.low hb, h3, h4, fun ad e => ?_⟩
  obtain ⟨h6, cs, fr, h7⟩ := h5 ad e
  refine ⟨h6, cs, fr, ?_⟩
  rw [hb.block _ ?_]; exact h7
  rcases Nat.lt_or_ge ad.block w.heap.size with h | h
  · exact h
  · rw [Array.getElem?_eq_none h] at h7; cases h7

set_option maxRecDepth 100000 in
theorem newReader_any (w : World) (A : Option Addr) (l : List Int) (c : Nat) (hr : Rd w A (l.map (.int .u8))) (hl : l.length ≤ 1000000) :
    Calls Try.prog 38 #[.slice A l.length c] w fun e w' => ∃ p, e = .returned (.pointer (some ⟨p, 0, none⟩)) ∧ w.heap.size ≤ p ∧ RdAt w' p ⟨l, 0⟩ ∧ Below w.heap.size w w' := by
  have HR := Lib.hid hr
  clear hr
  go_enter Try.func38, Try.ntmps38
  go_wp2_with (first
    | (at_make; refine wpList_mk l.length (.int .u8 0) rfl rfl slU8 u8zero rfl rfl rfl rfl (by omega) (by unfold maxLen; omega) (Nat.le_refl _) ?_; intro w1 hown1 hb1
       have HR1 := Lib.hid (HR.out.low hb1)
       have HO1 := Lib.hid hown1
       have HB1 := Lib.hid hb1
       clear hown1 hb1)
    | (refine wpList_cp (l.map (.int .u8)) rfl rfl slU8 HO1.out rfl HR1.out rfl (by simp) (Nat.le_refl _) oneCell_ints HB1.out.size ?_; intro w2 hown2 hb2
       have HO2 := Lib.hid hown2
       have HB2 := Lib.hid (HB1.out.trans hb2)
       clear hown2 hb2))
  go_ret
  refine ⟨_, rfl, HB2.out.size, ⟨_, _, Blk.new _ _ _, (Rd.of_own HO2.out).alloc _, Nat.le_refl _, (own_cap HO2.out).2, fun ad e => ?_⟩, HB2.out.alloc HB2.out.size _⟩
  have := (HO2.out.lt ad.block (by rw [ownBlock_slice, e]; rfl)).2
  refine ⟨by omega, ?_⟩
  rcases HO2.out.2 with ⟨h1, _⟩ | ⟨g, cap, cur, h1, _, hh, _⟩
  · injection h1 with h1; rw [h1] at e; cases e
  · injection h1 with h1; rw [h1] at e; injection e with e; subst e
    exact ⟨cur, _, (Below.heap_alloc _ _ _ this).trans hh⟩

set_option maxRecDepth 100000 in
theorem fail_any (w : World) (p : Nat) (r : Wr.R) (x : Int) (h : RdAt w p r) :
    Calls Try.prog 51 #[.pointer (some ⟨p, 0, none⟩), .int .i64 x] w fun e w' => e = .returned (.tuple #[]) ∧ RdAt w' p ⟨[], x⟩ ∧ Chg (· = p) w w' := by
  obtain ⟨A, c, hb, hr, hc, hm, hne⟩ := h
  have h0 := hb.cell 0
  have h1 := hb.cell 1
  have f0 := hb.frozen 0
  have f1 := hb.frozen 1
  simp at h0 h1
  have HB := Lib.hid hb
  clear hb hr hne
  go_enter Try.func51, Try.ntmps51
  go_wp2
  go_end0
  refine ⟨rfl, ⟨none, 0, ?_, Rd.nil _ _, by simp, by unfold maxLen; omega, fun ad e => by cases e⟩, ?_⟩
  · exact (HB.out.set_ 1 (.int .i64 x)).set_ 0 (.slice none 0 0)
  · exact (Chg.setCell w ⟨p, 1, none⟩ (.int .i64 x)).trans (Chg.setCell _ ⟨p, 0, none⟩ (.slice none 0 0)) (fun _ _ h => h)

theorem cutA_block {A : Option Addr} {c k s : Nat} {ad : Addr} (h : cutA A c k s = some ad) : ∃ ad', A = some ad' ∧ ad'.block = ad.block := by
  unfold cutA at h
  split at h
  · exact ⟨ad, h, rfl⟩
  · cases A with
    | none => cases h
    | some a => injection h with h; exact ⟨a, rfl, by rw [← h, block_of_add]⟩

set_option maxRecDepth 100000 in
theorem next_bad (w : World) (p : Nat) (r : Wr.R) (h : RdAt w p r) (he : r.e ≠ 0) :
    Calls Try.prog 50 #[.pointer (some ⟨p, 0, none⟩)] w fun e w' => e = .returned (.tuple #[.int .u8 0, .bool false]) ∧ w = w' := by
  obtain ⟨A, c, hb, hr, hc, hm, hne⟩ := h
  have h1 := hb.cell 1
  simp at h1
  have hq : (r.e != 0) = true := by simpa using he
  clear hb hr hne he
  go_enter Try.func50, Try.ntmps50
  go_wp2
  go_ret2
  exact ⟨rfl, rfl⟩

set_option maxRecDepth 100000 in
theorem next_nil (w : World) (p : Nat) (h : RdAt w p ⟨[], 0⟩) :
    Calls Try.prog 50 #[.pointer (some ⟨p, 0, none⟩)] w fun e w' => e = .returned (.tuple #[.int .u8 0, .bool false]) ∧ RdAt w' p ⟨[], 11⟩ ∧ Chg (· = p) w w' := by
  have H := Lib.hid h
  obtain ⟨A, c, hb, hr, hc, hm, hne⟩ := h
  have h1 := hb.cell 1
  have h0 := hb.cell 0
  simp at h0 h1
  clear hb hr hne
  go_enter Try.func50, Try.ntmps50
  go_wp2_with fail
  refine (fail_any _ p _ 11 H.out).mono ?_
  rintro e w1 ⟨rfl, h1', h2'⟩
  have H1 := Lib.hid h1'
  have H2 := Lib.hid h2'
  clear h1' h2'
  go_wp2
  go_ret2
  exact ⟨rfl, H1.out, H2.out⟩

set_option maxRecDepth 100000 in
theorem next_cons (w : World) (p : Nat) (x : Int) (l : List Int) (h : RdAt w p ⟨x :: l, 0⟩) :
    Calls Try.prog 50 #[.pointer (some ⟨p, 0, none⟩)] w fun e w' => e = .returned (.tuple #[.int .u8 x, .bool true]) ∧ RdAt w' p ⟨l, 0⟩ ∧ Chg (· = p) w w' := by
  obtain ⟨A, c, hb, hr, hc, hm, hne⟩ := h
  have h0 := hb.cell 0
  have h1 := hb.cell 1
  have f0 := hb.frozen 0
  have hl1 : ((l.length : Int) + 1 == 0) = false := by rw [beq_eq_false_iff_ne]; omega
  simp at h0 h1
  simp only [List.length_cons] at hc
  unfold maxLen at hm
  have hs : ∀ W, (Instr.slice 56 (.slice A (l.length + 1) c) (some (.int .i64 1)) none none).run Try.prog W = .ok (.slice (cutA A c 1 1) l.length (c - 1)) W := fun W => by
    have := run_from slU8 A (l.length + 1) c 1 (by omega) W
    simpa using this
  have HC := Lib.hid (hr.cut (size := 1) c 1 (by simp; omega))
  obtain ⟨ad, hA, hcell⟩ := hr 0 (.int .u8 x) rfl
  have hcell' : w.cell? ad = some (.int .u8 x) := hcell
  have HNE := Lib.hid hne
  have HB := Lib.hid hb
  subst hA
  clear hb hr hne hcell
  go_enter Try.func50, Try.ntmps50
  go_wp2
  go_ret2
  have hc1 := Chg.setCell w ⟨p, 0, none⟩ (.slice (cutA (some ad) c 1 1) l.length (c - 1))
  have hno : ∀ ad', cutA (some ad) c 1 1 = some ad' → ¬ ad'.block = p := fun ad' e => by
    obtain ⟨a2, e2, e3⟩ := cutA_block e
    rw [← e3]; exact (HNE.out a2 e2).1
  refine ⟨rfl, ⟨cutA (some ad) c 1 1, c - 1, HB.out.set_ 0 (.slice (cutA (some ad) c 1 1) l.length (c - 1)), ?_, by show l.length ≤ c - 1; omega, by unfold maxLen; omega, fun ad' e => ⟨hno ad' e, by
    obtain ⟨a2, e2, e3⟩ := cutA_block e
    obtain ⟨h6, cs, fr, h7⟩ := HNE.out a2 e2
    exact ⟨cs, fr, by rw [Below.heap_setCell _ _ _ _ (hno ad' e), ← e3]; exact h7⟩⟩⟩, hc1⟩
  have := HC.out
  simp only [List.map_cons, Nat.mul_one, List.drop_succ_cons, List.drop_zero] at this
  exact this.chg hc1 hno

set_option maxRecDepth 100000 in
theorem finish_any (w : World) (p : Nat) (r : Wr.R) (h : RdAt w p r) :
    Calls Try.prog 40 #[.pointer (some ⟨p, 0, none⟩)] w fun e w' => e = .returned (.int .i64 (Wr.fin r)) ∧ w = w' := by
  obtain ⟨A, c, hb, hr, hc, hm, hne⟩ := h
  have h0 := hb.cell 0
  have h1 := hb.cell 1
  simp at h0 h1
  clear hb hr hne
  by_cases he : r.e = 0
  · have hq : (r.e != 0) = false := by simpa using he
    by_cases hl : r.l = []
    · have HF := Lib.hid (show Wr.fin r = 0 by unfold Wr.fin; rw [if_neg (by simpa using he), if_pos hl])
      have hl0 : ¬ (0 : Int) < (r.l.length : Int) := by rw [hl]; simp
      clear hl he
      go_enter Try.func40, Try.ntmps40
      go_wp2
      go_ret
      exact ⟨ret_int HF.out.symm, rfl⟩
    · have HF := Lib.hid (show Wr.fin r = 2 by unfold Wr.fin; rw [if_neg (by simpa using he), if_neg hl])
      have hl0 : (0 : Int) < (r.l.length : Int) := by have := List.length_pos_iff.2 hl; omega
      clear hl he
      go_enter Try.func40, Try.ntmps40
      go_wp2
      go_ret
      exact ⟨ret_int HF.out.symm, rfl⟩
  · have hq : (r.e != 0) = true := by simpa using he
    have HF := Lib.hid (show Wr.fin r = r.e by unfold Wr.fin; rw [if_pos he])
    clear he
    go_enter Try.func40, Try.ntmps40
    go_wp2
    go_ret
    exact ⟨ret_int HF.out.symm, rfl⟩

namespace Wr
theorem shl_or {acc k : Nat} {x : Int} (hacc : acc < 128 ^ k) (hk : k ≤ 9) (hx : 0 ≤ x ∧ x < 256) (h9 : k = 9 → x = 1) :
    bits .or .u64 (acc : Int) (IntKind.u64.wrap (x % 128 * 2 ^ (7 * (k : Int)).toNat)) = ((acc + (x % 128).toNat * 128 ^ k : Nat) : Int) := by
  have e1 : (2 : Int) ^ (7 * (k : Int)).toNat = ((128 ^ k : Nat) : Int) := by
    rw [show (7 * (k : Int)).toNat = 7 * k by omega, Int.pow_mul]; norm_cast
  obtain ⟨y, hy⟩ := Int.eq_ofNat_of_zero_le (show 0 ≤ x % 128 by omega)
  have hy1 : y < 128 := by omega
  have hy9 : k = 9 → y = 1 := fun h => by have := h9 h; omega
  rw [e1, hy, Int.toNat_natCast]
  have hle : (128 : Nat) ^ k ≤ 128 ^ 9 := Nat.pow_le_pow_right (by omega) hk
  have : k = 0 ∨ k = 1 ∨ k = 2 ∨ k = 3 ∨ k = 4 ∨ k = 5 ∨ k = 6 ∨ k = 7 ∨ k = 8 ∨ k = 9 := by omega
  rcases this with rfl | rfl | rfl | rfl | rfl | rfl | rfl | rfl | rfl | rfl
  · rw [show (128 : Nat) ^ 0 = 1 by decide] at hacc ⊢
    rw [IntKind.wrap_u64, Int.emod_eq_of_lt (by omega) (by omega)]; have := u64_orv0 (y := (acc : Int)) (x := (y : Int) * ((1 : Nat) : Int)) (by omega) (by omega) (by omega) (by omega) (by omega); exact this.trans (by omega)
  · rw [show (128 : Nat) ^ 1 = 128 by decide] at hacc ⊢
    rw [IntKind.wrap_u64, Int.emod_eq_of_lt (by omega) (by omega)]; have := u64_orv7 (y := (acc : Int)) (x := (y : Int) * ((128 : Nat) : Int)) (by omega) (by omega) (by omega) (by omega) (by omega); exact this.trans (by omega)
  · rw [show (128 : Nat) ^ 2 = 16384 by decide] at hacc ⊢
    rw [IntKind.wrap_u64, Int.emod_eq_of_lt (by omega) (by omega)]; have := u64_orv14 (y := (acc : Int)) (x := (y : Int) * ((16384 : Nat) : Int)) (by omega) (by omega) (by omega) (by omega) (by omega); exact this.trans (by omega)
  · rw [show (128 : Nat) ^ 3 = 2097152 by decide] at hacc ⊢
    rw [IntKind.wrap_u64, Int.emod_eq_of_lt (by omega) (by omega)]; have := u64_orv21 (y := (acc : Int)) (x := (y : Int) * ((2097152 : Nat) : Int)) (by omega) (by omega) (by omega) (by omega) (by omega); exact this.trans (by omega)
  · rw [show (128 : Nat) ^ 4 = 268435456 by decide] at hacc ⊢
    rw [IntKind.wrap_u64, Int.emod_eq_of_lt (by omega) (by omega)]; have := u64_orv28 (y := (acc : Int)) (x := (y : Int) * ((268435456 : Nat) : Int)) (by omega) (by omega) (by omega) (by omega) (by omega); exact this.trans (by omega)
  · rw [show (128 : Nat) ^ 5 = 34359738368 by decide] at hacc ⊢
    rw [IntKind.wrap_u64, Int.emod_eq_of_lt (by omega) (by omega)]; have := u64_orv35 (y := (acc : Int)) (x := (y : Int) * ((34359738368 : Nat) : Int)) (by omega) (by omega) (by omega) (by omega) (by omega); exact this.trans (by omega)
  · rw [show (128 : Nat) ^ 6 = 4398046511104 by decide] at hacc ⊢
    rw [IntKind.wrap_u64, Int.emod_eq_of_lt (by omega) (by omega)]; have := u64_orv42 (y := (acc : Int)) (x := (y : Int) * ((4398046511104 : Nat) : Int)) (by omega) (by omega) (by omega) (by omega) (by omega); exact this.trans (by omega)
  · rw [show (128 : Nat) ^ 7 = 562949953421312 by decide] at hacc ⊢
    rw [IntKind.wrap_u64, Int.emod_eq_of_lt (by omega) (by omega)]; have := u64_orv49 (y := (acc : Int)) (x := (y : Int) * ((562949953421312 : Nat) : Int)) (by omega) (by omega) (by omega) (by omega) (by omega); exact this.trans (by omega)
  · rw [show (128 : Nat) ^ 8 = 72057594037927936 by decide] at hacc ⊢
    rw [IntKind.wrap_u64, Int.emod_eq_of_lt (by omega) (by omega)]; have := u64_orv56 (y := (acc : Int)) (x := (y : Int) * ((72057594037927936 : Nat) : Int)) (by omega) (by omega) (by omega) (by omega) (by omega); exact this.trans (by omega)
  · rw [show (128 : Nat) ^ 9 = 9223372036854775808 by decide] at hacc ⊢
    rw [IntKind.wrap_u64, Int.emod_eq_of_lt (by omega) (by omega)]; have := u64_orv63 (y := (acc : Int)) (x := (y : Int) * ((9223372036854775808 : Nat) : Int)) (by omega) (by omega) (by omega) (by omega) (by omega); exact this.trans (by omega)
end Wr
end Go.Proofs.Ytgpdodhegacndaa
