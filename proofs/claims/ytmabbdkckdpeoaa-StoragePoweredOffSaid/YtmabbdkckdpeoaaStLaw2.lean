/- Layer 19: the walks of four laws. -/
import Derived.Test.YtmabbdkckdpeoaaStLaw1
namespace Go.Proofs.Ytmabbdkckdpeoaa
set_option linter.unusedSimpArgs false
set_option linter.unusedVariables false
open Go.RowKit

namespace St
theorem cut_data (t : T) (keep m : Int) (h : t.off = false) (hl : t.lasts ≤ t.data.length) : (cut t keep m).data.length = kept t keep ∧ (cut t keep m).lasts = kept t keep ∧ (cut t keep m).off = true ∧ t.lasts ≤ kept t keep ∧ kept t keep ≤ t.data.length := by
  have hk : t.lasts ≤ kept t keep ∧ kept t keep ≤ t.data.length := by unfold kept; omega
  unfold cut
  simp only [h, Bool.false_eq_true, if_false]
  refine ⟨?_, trivial, trivial, hk.1, hk.2⟩
  by_cases h3 : t.lasts < kept t keep
  · rw [if_pos h3, xorLast_length, List.length_take]; omega
  · rw [if_neg h3, List.length_take]; omega
def sameN (t : T) (keep : Int) : Nat := if t.lasts < kept t keep then kept t keep - 1 else kept t keep
theorem cut_same (t : T) (keep m : Int) (h : t.off = false) (hl : t.lasts ≤ t.data.length) : (cut t keep m).data.take (sameN t keep) = t.data.take (sameN t keep) := by
  have hk : t.lasts ≤ kept t keep ∧ kept t keep ≤ t.data.length := by unfold kept; omega
  unfold cut sameN
  simp only [h, Bool.false_eq_true, if_false]
  by_cases h3 : t.lasts < kept t keep
  · rw [if_pos h3, if_pos h3]
    unfold xorLast
    have e : (t.data.take (kept t keep)).length = kept t keep := by rw [List.length_take]; omega
    rw [e, List.take_append_of_le_length (by rw [List.length_take]; omega), List.take_take, List.take_take]
    congr 1; omega
  · rw [if_neg h3, if_neg h3, List.take_take]
    congr 1; omega
end St

set_option maxRecDepth 100000 in
set_option maxHeartbeats 1000000 in
theorem durability_walk (A : Option Addr) (l : List St.Act) (c : Nat) (keep m : Int) (w : World) (h : Acts w A l) (hl : l.length ≤ maxLen) (hbig : ∀ a ∈ l, a.b.length ≤ 140737488355328) (hk : -9223372036854775808 ≤ keep ∧ keep ≤ 9223372036854775807) :
    Calls Try.prog 6 #[.slice A l.length c, .int .i64 keep, .int .u8 m] w fun e w' => e = .returned (.bool true) ∧ Below w.heap.size w w' := by
  have HA := Lib.hid h
  have HL := Lib.hid hl
  have HBIG := Lib.hid hbig
  unfold maxLen at hl
  clear h hbig
  by_cases hs : tot l ≤ 3000
  · have HS := Lib.hid (decide_eq_true hs)
    clear hs
    go_enter Try.func6, Try.ntmps6
    go_wp2_with fail
    refine (wakes_any _).mono ?_
    rintro e w1 ⟨rfl, hb1⟩
    have HB1 := Lib.hid hb1
    clear hb1
    go_wp2_with fail
    refine (small_any _ A l c (HA.out.low HB1.out) HL.out HBIG.out).mono ?_
    rw [HS.out]
    rintro e w2 ⟨rfl, hb2⟩
    have HB2 := Lib.hid (HB1.out.trans (hb2.mono HB1.out.size))
    clear hb2
    go_wp2_with fail
    refine (play_any _ A l c (HA.out.low HB2.out) HL.out).mono ?_
    rintro e w3 ⟨p, g, A3, c3, rfl, hf3, ⟨base, hp3, hg3, hbs3, hown3⟩, hb3⟩
    have HF3 := Lib.hid hf3
    have HO3 := Lib.hid hown3
    have HG3 := Lib.hid (show ∀ k, A3.map (·.block) = some k → 0 < (St.run l).data.length → ¬ Fp p g k by
      intro k hk h0
      obtain ⟨ad, rfl⟩ : ∃ ad, A3 = some ad := by cases A3 with | none => cases hk | some ad => exact ⟨ad, rfl⟩
      have := own_new hown3 h0 ad rfl
      have hk' : ad.block = k := by injection hk
      rintro (e | e)
      · omega
      · have := hg3 k e.symm; omega)
    have HB3 := Lib.hid (HB2.out.trans (hb3.mono HB2.out.size))
    have HZ2 := Lib.hid HB2.out.size
    clear hf3 hown3 hb3 hp3 hg3 hbs3
    obtain ⟨T, hT⟩ : ∃ T, St.on (St.run l) = T := ⟨_, rfl⟩
    have hTd : (St.run l).data = T.data := by rw [← hT]; rfl
    have hTl : (St.run l).lasts = T.lasts := by rw [← hT]; rfl
    have hTo : T.off = false := by rw [← hT]; rfl
    have hok := St.run_ok l
    have HFT := Lib.hid (hT ▸ HF3.out)
    have HOT := Lib.hid HO3.out
    have HGT := Lib.hid HG3.out
    rw [hTd, hTl] at hok
    rw [hTd] at HOT HGT
    rw [hTd, hTl]
    have HTO := Lib.hid hTo
    have hcut := St.cut_data T keep m hTo hok.1
    have hcs := St.cut_same T keep m hTo hok.1
    obtain ⟨D, hD⟩ : ∃ D, St.cut T keep m = D := ⟨_, rfl⟩
    rw [hD] at hcut hcs
    obtain ⟨q1, q2, q3, q4, q5⟩ := hcut
    obtain ⟨K, hK⟩ : ∃ K, St.kept T keep = K := ⟨_, rfl⟩
    rw [hK] at q1 q2 q4 q5
    have HSN := Lib.hid (show St.sameN T keep = if T.lasts < K then K - 1 else K by unfold St.sameN; rw [hK])
    have HD := Lib.hid hD
    have HQ1 := Lib.hid q1
    have HQ2 := Lib.hid q2
    have HCS := Lib.hid hcs
    have HOK := Lib.hid hok
    obtain ⟨hok1, hok2⟩ := hok
    clear hT hTd hTl hTo hcs hD q1 q2 q3 hK
    go_wp2_with fail
    refine (powerFail_any _ _ _ _ _ keep m HFT.out HOK.out hk).mono ?_
    rintro e w4 ⟨rfl, g4, hf4, hc4, hd4⟩
    have HF4 := Lib.hid hf4
    have HB4 := Lib.hid (HB3.out.trans (hc4.below (fun k hk => Nat.le_trans HZ2.out (HF3.out.base k hk)) HB3.out.size))
    rw [HD.out] at HF4
    have HO4 := Lib.hid (Rd.of_own HOT.out)
    have HR4 := Lib.hid (show Rd w4 A3 (T.data.map (.int .u8)) from by
      by_cases h0 : 0 < T.data.length
      · exact HO4.out.chg hc4 (fun ad e => HGT.out ad.block (by rw [e]; rfl) h0)
      · have : T.data = [] := List.eq_nil_of_length_eq_zero (by omega)
        rw [this]; exact Rd.nil _ _)
    have hd4K := Lib.hid hd4
    clear hf4 hc4 hd4
    obtain ⟨D1, hD1⟩ : ∃ D1, St.on D = D1 := ⟨_, rfl⟩
    have e1 : D1.data.length = K := by rw [← hD1]; exact HQ1.out
    have e2 : D1.lasts = K := by rw [← hD1]; exact HQ2.out
    have e3 : D1.data.take (St.sameN T keep) = T.data.take (St.sameN T keep) := by rw [← hD1]; exact HCS.out
    have e4 : D1.off = false := by rw [← hD1]; rfl
    have HE1 := Lib.hid e1
    have HE2 := Lib.hid e2
    have HE3 := Lib.hid e3
    have HE4 := Lib.hid e4
    have HD1 := Lib.hid hD1
    clear hD1 e1 e2 e3 e4
    go_wp2_with fail
    refine (powerOn_any _ _ _ _ _ HF4.out).mono ?_
    rintro e w5 ⟨rfl, g5, hf5, hc5, hd5⟩
    have HF5 := Lib.hid hf5
    have HB5 := Lib.hid (HB4.out.trans (hc5.below (fun k hk => Nat.le_trans HZ2.out (HF4.out.base k hk)) HB4.out.size))
    rw [HD1.out] at HF5
    have HR5 := Lib.hid (show Rd w5 A3 (T.data.map (.int .u8)) from by
      by_cases h0 : 0 < T.data.length
      · exact HR4.out.chg hc5 (fun ad e h => by
          rcases hd4K.out with e4 | ⟨k, e4, hk⟩
          · rw [e4] at h; exact HGT.out ad.block (by rw [e]; rfl) h0 h
          · rcases h with h | h
            · exact HGT.out ad.block (by rw [e]; rfl) h0 (.inl h)
            · rw [e4] at h; injection h with h; have := (HOT.out.lt ad.block (by rw [e]; rfl)).2; omega)
      · have : T.data = [] := List.eq_nil_of_length_eq_zero (by omega)
        rw [this]; exact Rd.nil _ _)
    clear hf5 hc5 hd5
    go_wp2_with fail
    refine (bytes_any _ _ _ _ _ HF5.out (by have := HE1.out; omega) HE4.out).mono ?_
    rw [HE1.out]
    rintro e w6 ⟨A6, c6, rfl, hown6, hb6⟩
    have HF6 := Lib.hid (HF5.out.low hb6)
    have HB6 := Lib.hid (HB5.out.trans (hb6.mono HB5.out.size))
    have HR6 := Lib.hid (HR5.out.low hb6)
    have HC6 := Lib.hid (Rd.of_own hown6)
    have hcap6 := (own_cap hown6).1
    have hcap3 := (own_cap HOT.out).1
    clear hown6 hb6
    have hdur := durable_any _ _ _ _ _ HF6.out
    rw [HE2.out] at hdur
    have HDU := Lib.hid hdur
    clear hdur
    have bk0 : (((K : Int) != (K : Int))) = false := by simp
    by_cases hlt : T.lasts < K
    · have hS : St.sameN T keep = K - 1 := by rw [HSN.out, if_pos hlt]
      have hS3 := HE3.out
      rw [hS] at hS3
      have s1 := fun n => strU8 (w6.drewN n) A6 (D1.data.take (K - 1)) (K - 1) c6 ((HC6.out.take (K - 1)).drewN n) (by rw [List.length_take]; have := HE1.out; omega)
      have s2 := fun n => strU8 (w6.drewN n) A3 (T.data.take (K - 1)) (K - 1) c3 ((HR6.out.take (K - 1)).drewN n) (by rw [List.length_take]; omega)
      rw [hS3] at s1
      obtain ⟨BS, hBS⟩ : ∃ BS, bstr (T.data.take (K - 1)) = BS := ⟨_, rfl⟩
      rw [hBS] at s1 s2
      have hk1 : ((K : Int) - 1) = ((K - 1 : Nat) : Int) := by omega
      clear hS hS3 hBS
      go_wp2_with (go_at_call 13; refine HDU.out.mono ?_; rintro e w' ⟨rfl, rfl⟩)
      go_quiet (fail)
      go_wp2
      go_ret
      exact ⟨ret_bool (by simp), HB6.out.trans (below_drewN _ _ _)⟩
    · have hS : St.sameN T keep = K := by rw [HSN.out, if_neg hlt]
      have hS3 := HE3.out
      rw [hS] at hS3
      have s1 := fun n => strU8 (w6.drewN n) A6 (D1.data.take K) K c6 ((HC6.out.take K).drewN n) (by rw [List.length_take]; have := HE1.out; omega)
      have s2 := fun n => strU8 (w6.drewN n) A3 (T.data.take K) K c3 ((HR6.out.take K).drewN n) (by rw [List.length_take]; omega)
      rw [hS3] at s1
      obtain ⟨BS, hBS⟩ : ∃ BS, bstr (T.data.take K) = BS := ⟨_, rfl⟩
      rw [hBS] at s1 s2
      clear hS hS3 hBS
      go_wp2_with (go_at_call 13; refine HDU.out.mono ?_; rintro e w' ⟨rfl, rfl⟩)
      go_quiet (fail)
      go_wp2
      go_ret
      exact ⟨ret_bool (by simp), HB6.out.trans (below_drewN _ _ _)⟩
  · have HS := Lib.hid (decide_eq_false hs)
    clear hs
    go_enter Try.func6, Try.ntmps6
    go_wp2_with fail
    refine (wakes_any _).mono ?_
    rintro e w1 ⟨rfl, hb1⟩
    have HB1 := Lib.hid hb1
    clear hb1
    go_wp2_with fail
    refine (small_any _ A l c (HA.out.low HB1.out) HL.out HBIG.out).mono ?_
    rw [HS.out]
    rintro e w2 ⟨rfl, hb2⟩
    have HB2 := Lib.hid (HB1.out.trans (hb2.mono HB1.out.size))
    clear hb2
    go_wp2
    go_ret
    exact ⟨rfl, HB2.out⟩


end Go.Proofs.Ytmabbdkckdpeoaa
