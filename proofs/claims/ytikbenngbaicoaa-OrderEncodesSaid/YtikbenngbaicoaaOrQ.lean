/- Layer 28: OrderFenceRestores walked. -/
import Derived.Test.YtikbenngbaicoaaOrP
namespace Go.Proofs.Ytikbenngbaicoaa
set_option linter.unusedSimpArgs false
set_option linter.unusedVariables false
open Go.RowKit
attribute [local go_sem ↓] Go.wp_at_zero Go.wp_at_succ

namespace Wr
/-- what was decoded is encoded as it was -/
theorem dec_canon : ∀ (l : List Int) (i acc U : Nat) (r : List Int), Bts l → dec i acc l = .ok (U, r) → ∃ u, U = acc + u * 128 ^ i ∧ l = vint u ++ r ∧ (0 < i → 0 < u)
  | [], _, _, _, _, _, h => by simp [dec] at h
  | c :: l, i, acc, U, r, hb, h => by
    have hc := hb c (by simp)
    by_cases h1 : (9 ≤ i ∧ c ≠ 1) ∨ (0 < i ∧ c = 0)
    · rw [dec_bad h1] at h; cases h
    · obtain ⟨n, rfl⟩ := Int.eq_ofNat_of_zero_le hc.1
      by_cases h2 : (n : Int) < 128
      · rw [dec_end h1 h2] at h
        injection h with h; injection h with h h'
        exact ⟨n, by rw [← h]; simp, by rw [vint_lt (by omega), ← h']; rfl, by omega⟩
      · rw [dec_on h1 h2] at h
        obtain ⟨u, e1, e2, e3⟩ := dec_canon l (i + 1) _ U r (fun x hx => hb x (by simp [hx])) h
        have hu := e3 (by omega)
        have e : ((n : Int) % 128).toNat = n % 128 := by omega
        refine ⟨n % 128 + u * 128, ?_, ?_, by omega⟩
        · rw [e1, e, Nat.pow_succ, Nat.add_mul, Nat.mul_assoc u 128, Nat.mul_comm 128 (128 ^ i), Nat.add_assoc]
        · rw [vint_ge (by omega), e2, List.cons_append]
          congr 1
          · omega
          · rw [show (n % 128 + u * 128) / 128 = u by omega]
theorem zz_unzz (u : Nat) : Lib.zigzag (unzz u) = u := by
  unfold unzz Lib.zigzag
  by_cases h : u % 2 = 1
  · rw [if_pos h, if_neg (by omega)]; omega
  · rw [if_neg h, if_pos (by omega)]; omega
theorem rd_canon {r : R} (hb : Bts r.l) (he : (rd r).e = 0) : r.e = 0 ∧ r.l = enc (rdV r) ++ (rd r).l := by
  by_cases h0 : r.e = 0
  · refine ⟨h0, ?_⟩
    cases hd : dec 0 0 r.l with
    | error x =>
      rw [(rd_e1 h0 hd).1] at he
      have : x = 0 := he
      subst this
      exfalso
      have := (Al.refl r).step
      unfold rd rdK at this
      rw [if_neg (by simp [h0]), if_neg (by simp [h0]), hd] at this
      have := this.2 rfl
      rw [← this] at hd
      simp [dec] at hd
    | ok p =>
      obtain ⟨u, l⟩ := p
      rw [(rd_e0 h0 hd).1, (rd_e0 h0 hd).2.1]
      obtain ⟨v, e1, e2, _⟩ := dec_canon _ _ _ _ _ hb hd
      have : u = v := by simpa using e1
      subst this
      rw [e2]; unfold enc; rw [zz_unzz]
  · rw [(rd_bad h0).1] at he; exact absurd he h0
theorem fin0 {r : R} (h : fin r = 0) : r.e = 0 ∧ r.l = [] := by
  unfold fin at h
  split at h
  · rename_i hn; exact absurd h hn
  · rename_i hn
    split at h
    · rename_i hl; exact ⟨by simpa using hn, hl⟩
    · simp at h
theorem canon5 {l : List Int} (hb : Bts l) (h : fin (rs 5 ⟨l, 0⟩) = 0) : l = encs [rdV (rs 0 ⟨l, 0⟩), rdV (rs 1 ⟨l, 0⟩), rdV (rs 2 ⟨l, 0⟩), rdV (rs 3 ⟨l, 0⟩), rdV (rs 4 ⟨l, 0⟩)] := by
  obtain ⟨h5, l5⟩ := fin0 h
  obtain ⟨h4, l4⟩ := rd_canon (r := rs 4 ⟨l, 0⟩) (rs_bts hb 4) h5
  obtain ⟨h3, l3⟩ := rd_canon (r := rs 3 ⟨l, 0⟩) (rs_bts hb 3) h4
  obtain ⟨h2, l2⟩ := rd_canon (r := rs 2 ⟨l, 0⟩) (rs_bts hb 2) h3
  obtain ⟨h1, l1⟩ := rd_canon (r := rs 1 ⟨l, 0⟩) (rs_bts hb 1) h2
  obtain ⟨h0, l0⟩ := rd_canon (r := rs 0 ⟨l, 0⟩) (rs_bts hb 0) h1
  have e5 : (rd (rs 4 ⟨l, 0⟩)).l = [] := l5
  have e4 : (rd (rs 3 ⟨l, 0⟩)).l = (rs 4 ⟨l, 0⟩).l := rfl
  have e3 : (rd (rs 2 ⟨l, 0⟩)).l = (rs 3 ⟨l, 0⟩).l := rfl
  have e2 : (rd (rs 1 ⟨l, 0⟩)).l = (rs 2 ⟨l, 0⟩).l := rfl
  have e1 : (rd (rs 0 ⟨l, 0⟩)).l = (rs 1 ⟨l, 0⟩).l := rfl
  have e0 : (rs 0 ⟨l, 0⟩).l = l := rfl
  rw [e0, e1, l1, e2, l2, e3, l3, e4, l4, e5] at l0
  rw [Or.encs5]
  refine l0.trans ?_
  simp only [List.append_assoc, List.append_nil]
end Wr
namespace Or
theorem put_dec {l : List Int} (hb : Wr.Bts l) (h : okO l = true) : put (decO l) = l := by
  have h' := h
  unfold okO at h'
  simp only [Bool.and_eq_true, beq_iff_eq] at h'
  have e : decO l = ofR l := by unfold decO; rw [h]; rfl
  rw [e]; unfold put; rw [h'.2]
  exact (Wr.canon5 hb h'.1).symm
theorem rest_ok {u : Int} {l : List Int} (h : rest u l = true) : okO l = true := by unfold rest at h; simp at h; exact h.1
theorem dec_valid {l : List Int} (h : okO l = true) : valid (decO l) = true := by
  have e : decO l = ofR l := by unfold decO; rw [h]; rfl
  rw [e]; unfold okO at h; simp at h; exact h.2
theorem dec64 {l : List Int} (hb : Wr.Bts l) : O64 (decO l) := by
  unfold decO
  split
  · exact ⟨Wr.rdV_i64 (Wr.rs_bts (r := ⟨l, 0⟩) hb 0), Wr.rdV_i64 (Wr.rs_bts (r := ⟨l, 0⟩) hb 1), Wr.rdV_i64 (Wr.rs_bts (r := ⟨l, 0⟩) hb 2), Wr.rdV_i64 (Wr.rs_bts (r := ⟨l, 0⟩) hb 3), Wr.rdV_i64 (Wr.rs_bts (r := ⟨l, 0⟩) hb 4)⟩
  · exact zero64
end Or

set_option maxRecDepth 100000 in
set_option maxHeartbeats 2000000 in
theorem restores_unit (u : Int) (A : Option Addr) (l : List Int) (c : Nat) (w : World) (hr : Rd w A (l.map (.int .u8))) (hb : Wr.Bts l) (hl : l.length ≤ 200) (hu : Or.vu u = false) :
    Calls Try.prog 6 #[.int .i64 u, .slice A l.length c] w fun e w' => e = .returned (.bool true) ∧ Below w.heap.size w w' := by
  have HR := Lib.hid hr
  have HBT := Lib.hid hb
  have HB := Lib.hid (Below.refl w.heap.size w)
  clear hr hb
  have HU := Lib.hid hu
  clear hu
  go_enter Try.func6, Try.ntmps6
  go_wp2_with fail
  refine (alive_any _).mono ?_
  rintro e w0 ⟨rfl, hb⟩
  have TR_ := Lib.hid (HR.out.low hb)
  have TB_ := Lib.hid (HB.out.trans (hb.mono HB.out.size))
  clear HB HR
  have HR := Lib.hid TR_.out
  have HB := Lib.hid TB_.out
  clear TB_ TR_
  clear hb
  go_wp2_with fail
  refine (restore_unit u A l c _ HU.out).mono ?_
  rintro e w' ⟨rfl, rfl⟩
  go_wp2_with fail
  refine (ropen_unit u A l c _ HU.out).mono ?_
  rintro e w2 ⟨rfl, hb⟩
  have TR_ := Lib.hid (HR.out.low hb)
  have TB_ := Lib.hid (HB.out.trans (hb.mono HB.out.size))
  clear HB HR
  have HR := Lib.hid TR_.out
  have HB := Lib.hid TB_.out
  clear TB_ TR_
  clear hb
  go_wp2
  go_ret
  exact ⟨rfl, HB.out.alloc HB.out.size _⟩

set_option maxRecDepth 100000 in
set_option maxHeartbeats 2000000 in
theorem restores_bad (u : Int) (A : Option Addr) (l : List Int) (c : Nat) (w : World) (hr : Rd w A (l.map (.int .u8))) (hb : Wr.Bts l) (hl : l.length ≤ 200) (hu : Or.vu u = true) (hl0 : 0 < l.length) (ht : Or.rest u l = false) :
    Calls Try.prog 6 #[.int .i64 u, .slice A l.length c] w fun e w' => e = .returned (.bool true) ∧ Below w.heap.size w w' := by
  have HR := Lib.hid hr
  have HBT := Lib.hid hb
  have HB := Lib.hid (Below.refl w.heap.size w)
  clear hr hb
  have HU := Lib.hid hu
  have HT := Lib.hid ht
  clear hu ht
  have HOP := Lib.hid (show Or.opn u l = ⟨0, ⟨0, 0, 0, 0, 0⟩, false⟩ by unfold Or.opn; rw [HT.out]; rfl)
  go_enter Try.func6, Try.ntmps6
  go_wp2_with fail
  refine (alive_any _).mono ?_
  rintro e w0 ⟨rfl, hb⟩
  have TR_ := Lib.hid (HR.out.low hb)
  have TB_ := Lib.hid (HB.out.trans (hb.mono HB.out.size))
  clear HB HR
  have HR := Lib.hid TR_.out
  have HB := Lib.hid TB_.out
  clear TB_ TR_
  clear hb
  go_wp2_with fail
  refine (restore_any u A l c _ HU.out hl0 HR.out HBT.out (by omega)).mono ?_
  rintro e w1 ⟨hbad, _, hb⟩
  obtain rfl := hbad HT.out
  have TR_ := Lib.hid (HR.out.low hb)
  have TB_ := Lib.hid (HB.out.trans (hb.mono HB.out.size))
  clear HB HR
  have HR := Lib.hid TR_.out
  have HB := Lib.hid TB_.out
  clear TB_ TR_
  clear hb hbad
  go_wp2_with fail
  refine (ropen_any u A l c _ HU.out hl0 HR.out HBT.out (by omega)).mono ?_
  rw [HOP.out, HT.out]
  rintro e w2 ⟨rfl, hb⟩
  have TR_ := Lib.hid (HR.out.low hb)
  have TB_ := Lib.hid (HB.out.trans (hb.mono HB.out.size))
  clear HB HR
  have HR := Lib.hid TR_.out
  have HB := Lib.hid TB_.out
  clear TB_ TR_
  clear hb
  unfold Or.decE
  go_wp2
  go_ret
  exact ⟨rfl, HB.out.alloc HB.out.size _⟩

set_option maxRecDepth 100000 in
set_option maxHeartbeats 2000000 in
theorem restores_empty (u : Int) (A : Option Addr) (l : List Int) (c : Nat) (w : World) (hr : Rd w A (l.map (.int .u8))) (hb : Wr.Bts l) (hl : l.length ≤ 200) (hu : Or.vu u = true) (hl0 : l.length = 0) :
    Calls Try.prog 6 #[.int .i64 u, .slice A l.length c] w fun e w' => e = .returned (.bool true) ∧ Below w.heap.size w w' := by
  have HR := Lib.hid hr
  have HBT := Lib.hid hb
  have HB := Lib.hid (Below.refl w.heap.size w)
  clear hr hb
  have HU := Lib.hid hu
  obtain rfl : l = [] := List.eq_nil_of_length_eq_zero hl0
  obtain ⟨f, hf⟩ : ∃ f, Or.new u = f := ⟨_, rfl⟩
  have HNF := Lib.hid hf
  have HI := Lib.hid (show Or.Inv f from hf ▸ Or.Inv.new u)
  have H64 := Lib.hid (show Or.O64 f.o from hf ▸ Or.zero64)
  have HM := Lib.hid (show Or.marsh f = [] by rw [← hf]; rfl)
  clear hu hf
  go_enter Try.func6, Try.ntmps6
  go_wp2_with fail
  refine (alive_any _).mono ?_
  rintro e w0 ⟨rfl, hb⟩
  have TR_ := Lib.hid (HR.out.low hb)
  have TB_ := Lib.hid (HB.out.trans (hb.mono HB.out.size))
  clear HB HR
  have HR := Lib.hid TR_.out
  have HB := Lib.hid TB_.out
  clear TB_ TR_
  clear hb
  go_wp2_with fail
  obtain ⟨p, hp⟩ : ∃ p, w0.heap.size = p := ⟨_, rfl⟩
  have hpw : w.heap.size ≤ p := by have := HB.out.size; omega
  refine (restore_empty u A c _ HU.out).mono ?_
  rw [hp, HNF.out]
  rintro e w1 ⟨rfl, hf, hb⟩
  have NF_ := Lib.hid (show Blk w1 p 64 #[.int .i64 f.u, .int .i64 f.o.u, .int .i64 f.o.e, .int .i64 f.o.k, .int .i64 f.o.i, .int .i64 f.o.n, .bool f.a] from hf)
  have hb := hb
  have hb2 : Below w0.heap.size w0 w1 := by rw [hp]; exact hb
  clear hb
  have hb := hb2
  clear hb2
  have TR_ := Lib.hid (HR.out.low hb)
  have TB_ := Lib.hid (HB.out.trans (hb.mono HB.out.size))
  clear HB HR
  have HR := Lib.hid TR_.out
  have HB := Lib.hid TB_.out
  clear TB_ TR_
  clear hb hf hp
  have HF := Lib.hid NF_.out
  clear NF_
  have ltF_ := HF.out.lt
  go_wp2_with fail
  refine (ropen_empty u A c _ HU.out).mono ?_
  rintro e w2 ⟨rfl, hb⟩
  have TR_ := Lib.hid (HR.out.low hb)
  have TF_ := Lib.hid (HF.out.low hb)
  have TB_ := Lib.hid (HB.out.trans (hb.mono HB.out.size))
  clear ltF_
  clear HB HR HF
  have HR := Lib.hid TR_.out
  have HF := Lib.hid TF_.out
  have HB := Lib.hid TB_.out
  clear TB_ TR_ TF_
  clear hb
  have ltF_ := HF.out.lt
  go_wp2_with fail
  obtain ⟨b7, hbk_⟩ : ∃ b, w2.heap.size = b := ⟨_, rfl⟩
  have NG_ := Lib.hid (Blk.new' w2 31 #[.int .i64 u, .int .i64 0, .int .i64 0, .int .i64 0, .int .i64 0, .int .i64 0] b7 hbk_)
  have oFG_ : p < b7 := by have := HF.out.lt; omega
  have TR_ := Lib.hid ((HR.out.low ((Below.refl _ _).alloc (Nat.le_refl _) (.cells #[.int .i64 u, .int .i64 0, .int .i64 0, .int .i64 0, .int .i64 0, .int .i64 0] 31))))
  have TF_ := Lib.hid ((HF.out.low ((Below.refl _ _).alloc (Nat.le_refl _) (.cells #[.int .i64 u, .int .i64 0, .int .i64 0, .int .i64 0, .int .i64 0, .int .i64 0] 31))))
  have TB_ := Lib.hid (HB.out.alloc HB.out.size (.cells #[.int .i64 u, .int .i64 0, .int .i64 0, .int .i64 0, .int .i64 0, .int .i64 0] 31))
  clear ltF_
  clear HB HR HF
  have HR := Lib.hid TR_.out
  have HF := Lib.hid TF_.out
  have HB := Lib.hid TB_.out
  clear TB_ TR_ TF_
  try rw [hbk_]
  obtain ⟨w3, hw_⟩ : ∃ w', w2.alloc (.cells #[.int .i64 u, .int .i64 0, .int .i64 0, .int .i64 0, .int .i64 0, .int .i64 0] 31) = w' := ⟨_, rfl⟩
  rw [hw_] at NG_ HB HR HF ⊢
  have HG := Lib.hid NG_.out
  clear hw_ hbk_ NG_
  have TG_ := Lib.hid (show Blk w3 b7 31 #[.int .i64 f.u, .int .i64 f.o.u, .int .i64 f.o.e, .int .i64 f.o.k, .int .i64 f.o.i, .int .i64 f.o.n] by rw [← HNF.out]; exact HG.out)
  clear HG
  have HG := Lib.hid TG_.out
  clear TG_
  have ltF_ := HF.out.lt
  have g0_ : w3.cell? ⟨b7, 0, none⟩ = some (.int .i64 f.u) := HG.out.cell 0
  have g1_ : w3.cell? ⟨b7, 1, none⟩ = some (.int .i64 f.o.u) := HG.out.cell 1
  have g2_ : w3.cell? ⟨b7, 2, none⟩ = some (.int .i64 f.o.e) := HG.out.cell 2
  have g3_ : w3.cell? ⟨b7, 3, none⟩ = some (.int .i64 f.o.k) := HG.out.cell 3
  have g4_ : w3.cell? ⟨b7, 4, none⟩ = some (.int .i64 f.o.i) := HG.out.cell 4
  have g5_ : w3.cell? ⟨b7, 5, none⟩ = some (.int .i64 f.o.n) := HG.out.cell 5
  have ltG_ := HG.out.lt
  go_wp2_with fail
  refine (latest_any p f _ HF.out).mono ?_
  rintro e w4 ⟨rfl, hb⟩
  have TR_ := Lib.hid (HR.out.low hb)
  have TF_ := Lib.hid (HF.out.low hb)
  have TG_ := Lib.hid (HG.out.low hb)
  have TB_ := Lib.hid (HB.out.trans (hb.mono HB.out.size))
  clear ltF_ g0_ g1_ g2_ g3_ g4_ g5_ ltG_
  clear HB HR HF HG
  have HR := Lib.hid TR_.out
  have HF := Lib.hid TF_.out
  have HG := Lib.hid TG_.out
  have HB := Lib.hid TB_.out
  clear TB_ TR_ TF_ TG_
  clear hb
  have ltF_ := HF.out.lt
  have g0_ : w4.cell? ⟨b7, 0, none⟩ = some (.int .i64 f.u) := HG.out.cell 0
  have g1_ : w4.cell? ⟨b7, 1, none⟩ = some (.int .i64 f.o.u) := HG.out.cell 1
  have g2_ : w4.cell? ⟨b7, 2, none⟩ = some (.int .i64 f.o.e) := HG.out.cell 2
  have g3_ : w4.cell? ⟨b7, 3, none⟩ = some (.int .i64 f.o.k) := HG.out.cell 3
  have g4_ : w4.cell? ⟨b7, 4, none⟩ = some (.int .i64 f.o.i) := HG.out.cell 4
  have g5_ : w4.cell? ⟨b7, 5, none⟩ = some (.int .i64 f.o.n) := HG.out.cell 5
  have ltG_ := HG.out.lt
  go_wp2_with fail
  obtain ⟨bz, hbk_⟩ : ∃ b, w4.heap.size = b := ⟨_, rfl⟩
  have NZ_ := Lib.hid (Blk.new' w4 29 #[.int .i64 f.o.u, .int .i64 f.o.e, .int .i64 f.o.k, .int .i64 f.o.i, .int .i64 f.o.n] bz hbk_)
  have oFZ_ : p < bz := by have := HF.out.lt; omega
  have oGZ_ : b7 < bz := by have := HG.out.lt; omega
  have TR_ := Lib.hid ((HR.out.low ((Below.refl _ _).alloc (Nat.le_refl _) (.cells #[.int .i64 f.o.u, .int .i64 f.o.e, .int .i64 f.o.k, .int .i64 f.o.i, .int .i64 f.o.n] 29))))
  have TF_ := Lib.hid ((HF.out.low ((Below.refl _ _).alloc (Nat.le_refl _) (.cells #[.int .i64 f.o.u, .int .i64 f.o.e, .int .i64 f.o.k, .int .i64 f.o.i, .int .i64 f.o.n] 29))))
  have TG_ := Lib.hid ((HG.out.low ((Below.refl _ _).alloc (Nat.le_refl _) (.cells #[.int .i64 f.o.u, .int .i64 f.o.e, .int .i64 f.o.k, .int .i64 f.o.i, .int .i64 f.o.n] 29))))
  have TB_ := Lib.hid (HB.out.alloc HB.out.size (.cells #[.int .i64 f.o.u, .int .i64 f.o.e, .int .i64 f.o.k, .int .i64 f.o.i, .int .i64 f.o.n] 29))
  clear ltF_ g0_ g1_ g2_ g3_ g4_ g5_ ltG_
  clear HB HR HF HG
  have HR := Lib.hid TR_.out
  have HF := Lib.hid TF_.out
  have HG := Lib.hid TG_.out
  have HB := Lib.hid TB_.out
  clear TB_ TR_ TF_ TG_
  try rw [hbk_]
  obtain ⟨w5, hw_⟩ : ∃ w', w4.alloc (.cells #[.int .i64 f.o.u, .int .i64 f.o.e, .int .i64 f.o.k, .int .i64 f.o.i, .int .i64 f.o.n] 29) = w' := ⟨_, rfl⟩
  rw [hw_] at NZ_ HB HR HF HG ⊢
  have HZ := Lib.hid NZ_.out
  clear hw_ hbk_ NZ_
  have ltF_ := HF.out.lt
  have g0_ : w5.cell? ⟨b7, 0, none⟩ = some (.int .i64 f.u) := HG.out.cell 0
  have g1_ : w5.cell? ⟨b7, 1, none⟩ = some (.int .i64 f.o.u) := HG.out.cell 1
  have g2_ : w5.cell? ⟨b7, 2, none⟩ = some (.int .i64 f.o.e) := HG.out.cell 2
  have g3_ : w5.cell? ⟨b7, 3, none⟩ = some (.int .i64 f.o.k) := HG.out.cell 3
  have g4_ : w5.cell? ⟨b7, 4, none⟩ = some (.int .i64 f.o.i) := HG.out.cell 4
  have g5_ : w5.cell? ⟨b7, 5, none⟩ = some (.int .i64 f.o.n) := HG.out.cell 5
  have ltG_ := HG.out.lt
  have z0_ : w5.cell? ⟨bz, 0, none⟩ = some (.int .i64 f.o.u) := HZ.out.cell 0
  have z1_ : w5.cell? ⟨bz, 1, none⟩ = some (.int .i64 f.o.e) := HZ.out.cell 1
  have z2_ : w5.cell? ⟨bz, 2, none⟩ = some (.int .i64 f.o.k) := HZ.out.cell 2
  have z3_ : w5.cell? ⟨bz, 3, none⟩ = some (.int .i64 f.o.i) := HZ.out.cell 3
  have z4_ : w5.cell? ⟨bz, 4, none⟩ = some (.int .i64 f.o.n) := HZ.out.cell 4
  have ltZ_ := HZ.out.lt
  have hie : decide (0 < f.o.e) = f.a := HI.out.e
  have hga : (f.a == f.a) = true := beq_self_eq_true f.a
  have sb := strU8 w5.drew A [] 0 c HR.out.drew rfl
  have HR_0 := Lib.hid (HR.out.drew)
  have HF_0 := Lib.hid (Blk.drew HF.out)
  have HG_0 := Lib.hid (Blk.drew HG.out)
  have HZ_0 := Lib.hid (Blk.drew HZ.out)
  have HB_0 := Lib.hid HB.out.drew
  go_region_held_law (fun w' => (((w'.cell? ⟨bz, 0, none⟩ = some (.int .i64 f.o.u) ∧ w'.cell? ⟨bz, 1, none⟩ = some (.int .i64 f.o.e)) ∧ (w'.cell? ⟨bz, 2, none⟩ = some (.int .i64 f.o.k) ∧ (w'.cell? ⟨bz, 3, none⟩ = some (.int .i64 f.o.i) ∧ w'.cell? ⟨bz, 4, none⟩ = some (.int .i64 f.o.n)))) ∧ ((w'.cell? ⟨b7, 0, none⟩ = some (.int .i64 f.u) ∧ (w'.cell? ⟨b7, 1, none⟩ = some (.int .i64 f.o.u) ∧ w'.cell? ⟨b7, 2, none⟩ = some (.int .i64 f.o.e))) ∧ (w'.cell? ⟨b7, 3, none⟩ = some (.int .i64 f.o.k) ∧ (w'.cell? ⟨b7, 4, none⟩ = some (.int .i64 f.o.i) ∧ w'.cell? ⟨b7, 5, none⟩ = some (.int .i64 f.o.n))))))
    (first | with_reducible exact HS_1 | go_keep)
    (first
      | (go_at_call 15; refine (marshal_any p f _ HF_0.out H64.out).mono ?_; rw [HM.out]; rintro e w_1 ⟨A_1, c_1, rfl, hown, hb⟩
         have hR := HR_0.out.low hb
         have hF := HF_0.out.low hb
         have hG := HG_0.out.low hb
         have hZ := HZ_0.out.low hb
         have HS_1 : (((w_1.cell? ⟨bz, 0, none⟩ = some (.int .i64 f.o.u) ∧ w_1.cell? ⟨bz, 1, none⟩ = some (.int .i64 f.o.e)) ∧ (w_1.cell? ⟨bz, 2, none⟩ = some (.int .i64 f.o.k) ∧ (w_1.cell? ⟨bz, 3, none⟩ = some (.int .i64 f.o.i) ∧ w_1.cell? ⟨bz, 4, none⟩ = some (.int .i64 f.o.n)))) ∧ ((w_1.cell? ⟨b7, 0, none⟩ = some (.int .i64 f.u) ∧ (w_1.cell? ⟨b7, 1, none⟩ = some (.int .i64 f.o.u) ∧ w_1.cell? ⟨b7, 2, none⟩ = some (.int .i64 f.o.e))) ∧ (w_1.cell? ⟨b7, 3, none⟩ = some (.int .i64 f.o.k) ∧ (w_1.cell? ⟨b7, 4, none⟩ = some (.int .i64 f.o.i) ∧ w_1.cell? ⟨b7, 5, none⟩ = some (.int .i64 f.o.n))))) := ⟨⟨⟨hZ.cell 0, hZ.cell 1⟩, ⟨hZ.cell 2, ⟨hZ.cell 3, hZ.cell 4⟩⟩⟩, ⟨⟨hG.cell 0, ⟨hG.cell 1, hG.cell 2⟩⟩, ⟨hG.cell 3, ⟨hG.cell 4, hG.cell 5⟩⟩⟩⟩
         have HR_1 := Lib.hid hR
         have HF_1 := Lib.hid hF
         have HG_1 := Lib.hid hG
         have HZ_1 := Lib.hid hZ
         have HB_1 := Lib.hid (HB_0.out.trans (hb.mono HB_0.out.size))
         have t_1b := strU8 w_1 A [] 0 c HR_1.out rfl
         have HO_1 := Lib.hid hown
         have s_1 := strU8 w_1 A_1 ([]) 0 c_1 (Rd.of_own hown) rfl
         clear hR hF hG hZ hb hown))
  all_goals
    go_wp2
    go_ret
    exact ⟨ret_bool (by simp), HB_1.out⟩

set_option maxRecDepth 100000 in
set_option maxHeartbeats 2000000 in
theorem restores_good (u : Int) (A : Option Addr) (l : List Int) (c : Nat) (w : World) (hr : Rd w A (l.map (.int .u8))) (hb : Wr.Bts l) (hl : l.length ≤ 200) (hu : Or.vu u = true) (hl0 : 0 < l.length) (ht : Or.rest u l = true) :
    Calls Try.prog 6 #[.int .i64 u, .slice A l.length c] w fun e w' => e = .returned (.bool true) ∧ Below w.heap.size w w' := by
  have HR := Lib.hid hr
  have HBT := Lib.hid hb
  have HB := Lib.hid (Below.refl w.heap.size w)
  clear hr hb
  have HU := Lib.hid hu
  have HT := Lib.hid ht
  obtain ⟨f, hf⟩ : ∃ f : Or.F, ⟨u, Or.decO l, true⟩ = f := ⟨_, rfl⟩
  have HNF := Lib.hid hf
  have HOP := Lib.hid (show Or.opn u l = f by unfold Or.opn; rw [HT.out]; exact hf)
  have HI := Lib.hid (show Or.Inv f by rw [← hf]; exact ⟨(fun h => by cases h), fun _ => Or.dec_valid (Or.rest_ok ht)⟩)
  have H64 := Lib.hid (show Or.O64 f.o from hf ▸ Or.dec64 HBT.out)
  have HM := Lib.hid (show Or.marsh f = l by rw [← hf]; exact Or.put_dec HBT.out (Or.rest_ok ht))
  clear hu hf ht
  go_enter Try.func6, Try.ntmps6
  go_wp2_with fail
  refine (alive_any _).mono ?_
  rintro e w0 ⟨rfl, hb⟩
  have TR_ := Lib.hid (HR.out.low hb)
  have TB_ := Lib.hid (HB.out.trans (hb.mono HB.out.size))
  clear HB HR
  have HR := Lib.hid TR_.out
  have HB := Lib.hid TB_.out
  clear TB_ TR_
  clear hb
  go_wp2_with fail
  obtain ⟨p, hp⟩ : ∃ p, w0.heap.size = p := ⟨_, rfl⟩
  have hpw : w.heap.size ≤ p := by have := HB.out.size; omega
  refine (restore_any u A l c _ HU.out hl0 HR.out HBT.out (by omega)).mono ?_
  rw [hp, HNF.out]
  rintro e w1 ⟨_, hgood, hb⟩
  obtain ⟨rfl, hf⟩ := hgood HT.out
  have NF_ := Lib.hid (show Blk w1 p 64 #[.int .i64 f.u, .int .i64 f.o.u, .int .i64 f.o.e, .int .i64 f.o.k, .int .i64 f.o.i, .int .i64 f.o.n, .bool f.a] from hf)
  have hb2 : Below w0.heap.size w0 w1 := by rw [hp]; exact hb
  clear hb
  have hb := hb2
  clear hb2
  have TR_ := Lib.hid (HR.out.low hb)
  have TB_ := Lib.hid (HB.out.trans (hb.mono HB.out.size))
  clear HB HR
  have HR := Lib.hid TR_.out
  have HB := Lib.hid TB_.out
  clear TB_ TR_
  clear hb hf hp hgood
  have HF := Lib.hid NF_.out
  clear NF_
  have ltF_ := HF.out.lt
  go_wp2_with fail
  refine (ropen_any u A l c _ HU.out hl0 HR.out HBT.out (by omega)).mono ?_
  rw [HOP.out, HT.out]
  rintro e w2 ⟨rfl, hb⟩
  have TR_ := Lib.hid (HR.out.low hb)
  have TF_ := Lib.hid (HF.out.low hb)
  have TB_ := Lib.hid (HB.out.trans (hb.mono HB.out.size))
  clear ltF_
  clear HB HR HF
  have HR := Lib.hid TR_.out
  have HF := Lib.hid TF_.out
  have HB := Lib.hid TB_.out
  clear TB_ TR_ TF_
  clear hb
  have ltF_ := HF.out.lt
  unfold Or.decE
  go_wp2_with fail
  obtain ⟨b7, hbk_⟩ : ∃ b, w2.heap.size = b := ⟨_, rfl⟩
  have NG_ := Lib.hid (Blk.new' w2 31 #[.int .i64 f.u, .int .i64 f.o.u, .int .i64 f.o.e, .int .i64 f.o.k, .int .i64 f.o.i, .int .i64 f.o.n] b7 hbk_)
  have oFG_ : p < b7 := by have := HF.out.lt; omega
  have TR_ := Lib.hid ((HR.out.low ((Below.refl _ _).alloc (Nat.le_refl _) (.cells #[.int .i64 f.u, .int .i64 f.o.u, .int .i64 f.o.e, .int .i64 f.o.k, .int .i64 f.o.i, .int .i64 f.o.n] 31))))
  have TF_ := Lib.hid ((HF.out.low ((Below.refl _ _).alloc (Nat.le_refl _) (.cells #[.int .i64 f.u, .int .i64 f.o.u, .int .i64 f.o.e, .int .i64 f.o.k, .int .i64 f.o.i, .int .i64 f.o.n] 31))))
  have TB_ := Lib.hid (HB.out.alloc HB.out.size (.cells #[.int .i64 f.u, .int .i64 f.o.u, .int .i64 f.o.e, .int .i64 f.o.k, .int .i64 f.o.i, .int .i64 f.o.n] 31))
  clear ltF_
  clear HB HR HF
  have HR := Lib.hid TR_.out
  have HF := Lib.hid TF_.out
  have HB := Lib.hid TB_.out
  clear TB_ TR_ TF_
  try rw [hbk_]
  obtain ⟨w3, hw_⟩ : ∃ w', w2.alloc (.cells #[.int .i64 f.u, .int .i64 f.o.u, .int .i64 f.o.e, .int .i64 f.o.k, .int .i64 f.o.i, .int .i64 f.o.n] 31) = w' := ⟨_, rfl⟩
  rw [hw_] at NG_ HB HR HF ⊢
  have HG := Lib.hid NG_.out
  clear hw_ hbk_ NG_
  have ltF_ := HF.out.lt
  have g0_ : w3.cell? ⟨b7, 0, none⟩ = some (.int .i64 f.u) := HG.out.cell 0
  have g1_ : w3.cell? ⟨b7, 1, none⟩ = some (.int .i64 f.o.u) := HG.out.cell 1
  have g2_ : w3.cell? ⟨b7, 2, none⟩ = some (.int .i64 f.o.e) := HG.out.cell 2
  have g3_ : w3.cell? ⟨b7, 3, none⟩ = some (.int .i64 f.o.k) := HG.out.cell 3
  have g4_ : w3.cell? ⟨b7, 4, none⟩ = some (.int .i64 f.o.i) := HG.out.cell 4
  have g5_ : w3.cell? ⟨b7, 5, none⟩ = some (.int .i64 f.o.n) := HG.out.cell 5
  have ltG_ := HG.out.lt
  go_wp2_with fail
  refine (latest_any p f _ HF.out).mono ?_
  rintro e w4 ⟨rfl, hb⟩
  have TR_ := Lib.hid (HR.out.low hb)
  have TF_ := Lib.hid (HF.out.low hb)
  have TG_ := Lib.hid (HG.out.low hb)
  have TB_ := Lib.hid (HB.out.trans (hb.mono HB.out.size))
  clear ltF_ g0_ g1_ g2_ g3_ g4_ g5_ ltG_
  clear HB HR HF HG
  have HR := Lib.hid TR_.out
  have HF := Lib.hid TF_.out
  have HG := Lib.hid TG_.out
  have HB := Lib.hid TB_.out
  clear TB_ TR_ TF_ TG_
  clear hb
  have ltF_ := HF.out.lt
  have g0_ : w4.cell? ⟨b7, 0, none⟩ = some (.int .i64 f.u) := HG.out.cell 0
  have g1_ : w4.cell? ⟨b7, 1, none⟩ = some (.int .i64 f.o.u) := HG.out.cell 1
  have g2_ : w4.cell? ⟨b7, 2, none⟩ = some (.int .i64 f.o.e) := HG.out.cell 2
  have g3_ : w4.cell? ⟨b7, 3, none⟩ = some (.int .i64 f.o.k) := HG.out.cell 3
  have g4_ : w4.cell? ⟨b7, 4, none⟩ = some (.int .i64 f.o.i) := HG.out.cell 4
  have g5_ : w4.cell? ⟨b7, 5, none⟩ = some (.int .i64 f.o.n) := HG.out.cell 5
  have ltG_ := HG.out.lt
  go_wp2_with fail
  obtain ⟨bz, hbk_⟩ : ∃ b, w4.heap.size = b := ⟨_, rfl⟩
  have NZ_ := Lib.hid (Blk.new' w4 29 #[.int .i64 f.o.u, .int .i64 f.o.e, .int .i64 f.o.k, .int .i64 f.o.i, .int .i64 f.o.n] bz hbk_)
  have oFZ_ : p < bz := by have := HF.out.lt; omega
  have oGZ_ : b7 < bz := by have := HG.out.lt; omega
  have TR_ := Lib.hid ((HR.out.low ((Below.refl _ _).alloc (Nat.le_refl _) (.cells #[.int .i64 f.o.u, .int .i64 f.o.e, .int .i64 f.o.k, .int .i64 f.o.i, .int .i64 f.o.n] 29))))
  have TF_ := Lib.hid ((HF.out.low ((Below.refl _ _).alloc (Nat.le_refl _) (.cells #[.int .i64 f.o.u, .int .i64 f.o.e, .int .i64 f.o.k, .int .i64 f.o.i, .int .i64 f.o.n] 29))))
  have TG_ := Lib.hid ((HG.out.low ((Below.refl _ _).alloc (Nat.le_refl _) (.cells #[.int .i64 f.o.u, .int .i64 f.o.e, .int .i64 f.o.k, .int .i64 f.o.i, .int .i64 f.o.n] 29))))
  have TB_ := Lib.hid (HB.out.alloc HB.out.size (.cells #[.int .i64 f.o.u, .int .i64 f.o.e, .int .i64 f.o.k, .int .i64 f.o.i, .int .i64 f.o.n] 29))
  clear ltF_ g0_ g1_ g2_ g3_ g4_ g5_ ltG_
  clear HB HR HF HG
  have HR := Lib.hid TR_.out
  have HF := Lib.hid TF_.out
  have HG := Lib.hid TG_.out
  have HB := Lib.hid TB_.out
  clear TB_ TR_ TF_ TG_
  try rw [hbk_]
  obtain ⟨w5, hw_⟩ : ∃ w', w4.alloc (.cells #[.int .i64 f.o.u, .int .i64 f.o.e, .int .i64 f.o.k, .int .i64 f.o.i, .int .i64 f.o.n] 29) = w' := ⟨_, rfl⟩
  rw [hw_] at NZ_ HB HR HF HG ⊢
  have HZ := Lib.hid NZ_.out
  clear hw_ hbk_ NZ_
  have ltF_ := HF.out.lt
  have g0_ : w5.cell? ⟨b7, 0, none⟩ = some (.int .i64 f.u) := HG.out.cell 0
  have g1_ : w5.cell? ⟨b7, 1, none⟩ = some (.int .i64 f.o.u) := HG.out.cell 1
  have g2_ : w5.cell? ⟨b7, 2, none⟩ = some (.int .i64 f.o.e) := HG.out.cell 2
  have g3_ : w5.cell? ⟨b7, 3, none⟩ = some (.int .i64 f.o.k) := HG.out.cell 3
  have g4_ : w5.cell? ⟨b7, 4, none⟩ = some (.int .i64 f.o.i) := HG.out.cell 4
  have g5_ : w5.cell? ⟨b7, 5, none⟩ = some (.int .i64 f.o.n) := HG.out.cell 5
  have ltG_ := HG.out.lt
  have z0_ : w5.cell? ⟨bz, 0, none⟩ = some (.int .i64 f.o.u) := HZ.out.cell 0
  have z1_ : w5.cell? ⟨bz, 1, none⟩ = some (.int .i64 f.o.e) := HZ.out.cell 1
  have z2_ : w5.cell? ⟨bz, 2, none⟩ = some (.int .i64 f.o.k) := HZ.out.cell 2
  have z3_ : w5.cell? ⟨bz, 3, none⟩ = some (.int .i64 f.o.i) := HZ.out.cell 3
  have z4_ : w5.cell? ⟨bz, 4, none⟩ = some (.int .i64 f.o.n) := HZ.out.cell 4
  have ltZ_ := HZ.out.lt
  have hie : decide (0 < f.o.e) = f.a := HI.out.e
  have hga : (f.a == f.a) = true := beq_self_eq_true f.a
  have sb := strU8 w5.drew A l _ c HR.out.drew rfl
  have HR_0 := Lib.hid (HR.out.drew)
  have HF_0 := Lib.hid (Blk.drew HF.out)
  have HG_0 := Lib.hid (Blk.drew HG.out)
  have HZ_0 := Lib.hid (Blk.drew HZ.out)
  have HB_0 := Lib.hid HB.out.drew
  go_region_held_law (fun w' => (((w'.cell? ⟨bz, 0, none⟩ = some (.int .i64 f.o.u) ∧ w'.cell? ⟨bz, 1, none⟩ = some (.int .i64 f.o.e)) ∧ (w'.cell? ⟨bz, 2, none⟩ = some (.int .i64 f.o.k) ∧ (w'.cell? ⟨bz, 3, none⟩ = some (.int .i64 f.o.i) ∧ w'.cell? ⟨bz, 4, none⟩ = some (.int .i64 f.o.n)))) ∧ ((w'.cell? ⟨b7, 0, none⟩ = some (.int .i64 f.u) ∧ (w'.cell? ⟨b7, 1, none⟩ = some (.int .i64 f.o.u) ∧ w'.cell? ⟨b7, 2, none⟩ = some (.int .i64 f.o.e))) ∧ (w'.cell? ⟨b7, 3, none⟩ = some (.int .i64 f.o.k) ∧ (w'.cell? ⟨b7, 4, none⟩ = some (.int .i64 f.o.i) ∧ w'.cell? ⟨b7, 5, none⟩ = some (.int .i64 f.o.n))))))
    (first | with_reducible exact HS_1 | go_keep)
    (first
      | (go_at_call 15; refine (marshal_any p f _ HF_0.out H64.out).mono ?_; rw [HM.out]; rintro e w_1 ⟨A_1, c_1, rfl, hown, hb⟩
         have hR := HR_0.out.low hb
         have hF := HF_0.out.low hb
         have hG := HG_0.out.low hb
         have hZ := HZ_0.out.low hb
         have HS_1 : (((w_1.cell? ⟨bz, 0, none⟩ = some (.int .i64 f.o.u) ∧ w_1.cell? ⟨bz, 1, none⟩ = some (.int .i64 f.o.e)) ∧ (w_1.cell? ⟨bz, 2, none⟩ = some (.int .i64 f.o.k) ∧ (w_1.cell? ⟨bz, 3, none⟩ = some (.int .i64 f.o.i) ∧ w_1.cell? ⟨bz, 4, none⟩ = some (.int .i64 f.o.n)))) ∧ ((w_1.cell? ⟨b7, 0, none⟩ = some (.int .i64 f.u) ∧ (w_1.cell? ⟨b7, 1, none⟩ = some (.int .i64 f.o.u) ∧ w_1.cell? ⟨b7, 2, none⟩ = some (.int .i64 f.o.e))) ∧ (w_1.cell? ⟨b7, 3, none⟩ = some (.int .i64 f.o.k) ∧ (w_1.cell? ⟨b7, 4, none⟩ = some (.int .i64 f.o.i) ∧ w_1.cell? ⟨b7, 5, none⟩ = some (.int .i64 f.o.n))))) := ⟨⟨⟨hZ.cell 0, hZ.cell 1⟩, ⟨hZ.cell 2, ⟨hZ.cell 3, hZ.cell 4⟩⟩⟩, ⟨⟨hG.cell 0, ⟨hG.cell 1, hG.cell 2⟩⟩, ⟨hG.cell 3, ⟨hG.cell 4, hG.cell 5⟩⟩⟩⟩
         have HR_1 := Lib.hid hR
         have HF_1 := Lib.hid hF
         have HG_1 := Lib.hid hG
         have HZ_1 := Lib.hid hZ
         have HB_1 := Lib.hid (HB_0.out.trans (hb.mono HB_0.out.size))
         have t_1b := strU8 w_1 A l _ c HR_1.out rfl
         have HO_1 := Lib.hid hown
         have s_1 := strU8 w_1 A_1 (l) _ c_1 (Rd.of_own hown) rfl
         clear hR hF hG hZ hb hown))
  all_goals
    go_wp2
    go_ret
    exact ⟨ret_bool (by simp), HB_1.out⟩

theorem restores_walk (u : Int) (A : Option Addr) (l : List Int) (c : Nat) (w : World) (hr : Rd w A (l.map (.int .u8))) (hb : Wr.Bts l) (hl : l.length ≤ maxLen) :
    Calls Try.prog 6 #[.int .i64 u, .slice A l.length c] w fun e w' => e = .returned (.bool true) ∧ Below w.heap.size w w' := by
  by_cases h200 : l.length ≤ 200
  · cases hu : Or.vu u with
    | false => exact restores_unit u A l c w hr hb h200 hu
    | true =>
      by_cases h0 : l.length = 0
      · exact restores_empty u A l c w hr hb h200 hu h0
      · cases ht : Or.rest u l with
        | false => exact restores_bad u A l c w hr hb h200 hu (by omega) ht
        | true => exact restores_good u A l c w hr hb h200 hu (by omega) ht
  · unfold maxLen at hl
    clear hr hb
    go_enter Try.func6, Try.ntmps6
    go_wp2_with (go_at_call 9; refine (alive_any _).mono ?_; rintro e w0 ⟨rfl, hb⟩; have HB0 := Lib.hid hb; clear hb)
    go_ret
    exact ⟨rfl, HB0.out⟩
end Go.Proofs.Ytikbenngbaicoaa
