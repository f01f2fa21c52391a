/- Layer 19: StorageNoAliasing walked. -/
import Derived.Test.YtmabbdkckdpeoaaStLaw4
namespace Go.Proofs.Ytmabbdkckdpeoaa
set_option linter.unusedSimpArgs false
set_option linter.unusedVariables false
open Go.RowKit

set_option maxRecDepth 100000 in
set_option maxHeartbeats 1000000 in
theorem alias_walk (A : Option Addr) (b : List Int) (c : Nat) (w : World) (hr : Rd w A (b.map (.int .u8))) (hc : b.length ≤ c) (hm : c ≤ maxLen) :
    Calls Try.prog 4 #[.slice A b.length c] w fun e w' => e = .returned (.bool true) ∧ Below w.heap.size w w' := by
  have HR := Lib.hid hr
  have HM := Lib.hid hm
  unfold maxLen at hm
  clear hr
  by_cases hl : b.length ≤ 500
  · by_cases h0 : b.length = 0
    · have h0' : ((b.length : Int) == 0) = true := by rw [beq_iff_eq]; omega
      have H0 := Lib.hid h0
      clear h0
      go_enter Try.func4, Try.ntmps4
      go_wp2_with (go_at_call 9; refine (wakes_any _).mono ?_; rintro e w1 ⟨rfl, hb1⟩)
      go_ret
      exact ⟨rfl, hb1⟩
    · have h0' : ((b.length : Int) == 0) = false := by rw [beq_eq_false_iff_ne]; omega
      have hp : 0 < b.length := by omega
      have hp1 : (0 : Int) < (b.length : Int) := by omega
      have hne0 : ((b.length : Int) != (b.length : Int)) = false := by simp
      have H0 := Lib.hid h0
      clear h0
      go_enter Try.func4, Try.ntmps4
      go_wp2_with fail
      refine (wakes_any _).mono ?_
      rintro e w1 ⟨rfl, hb1⟩
      have HB1 := Lib.hid hb1
      have HR1 := Lib.hid ((HR.out.low hb1).alloc (.cells #[] 5))
      have HO1 := Lib.hid (World.ownsRow_lit (base := w.heap.size) (e := 5) (size := 1) w1 #[] 0 hb1.size (by unfold maxLen; omega) rfl)
      have HS1 := Lib.hid (le_alloc hb1.size (.cells #[] 5))
      have HBA := Lib.hid (hb1.alloc hb1.size (.cells #[] 5))
      clear hb1
      go_wp2_with (at_builtin; refine wpList_app b.length (b.map (.int .u8)) rfl rfl slU8 HO1.out rfl HR1.out rfl (by simp) oneCell_ints (by unfold maxLen; omega) HS1.out (by omega) rfl ?_; intro A2 c2 w2 hown2 hbel2 _ _
                   obtain ⟨g, hA2, hg1, hg2⟩ := own_addr hown2 (by omega)
                   subst hA2
                   have HG1 := Lib.hid hg1
                   have HB2 := Lib.hid (HBA.out.trans hbel2)
                   have HO2 := Lib.hid hown2
                   clear hown2 hbel2 hg1)
      refine (new_any _).mono ?_
      rintro e w3 ⟨rfl, hf3, hb3⟩
      have HF3 := Lib.hid hf3
      have HB3 := Lib.hid (HB2.out.trans (hb3.mono HB2.out.size))
      have HO3 := Lib.hid (own_below HO2.out hb3 (Nat.le_refl _))
      have HG3 := Lib.hid (show ¬ Fp w2.heap.size none g by
        rintro (e | e)
        · omega
        · cases e)
      clear hf3 hb3
      go_wp2_with fail
      refine (write_any _ _ _ _ St.new b (some ⟨g, 0, none⟩) c2 HF3.out (by simp [St.new]) (Rd.of_own HO3.out) (by unfold maxLen; omega)).mono ?_
      rw [(St.w_all b (by omega)).1, (St.w_all b (by omega)).2]
      rintro e w4 ⟨rfl, gf, hf4, hc4, hd4⟩
      have HF4 := Lib.hid hf4
      have HB4 := Lib.hid (HB3.out.trans (hc4.below (fun k hk => Nat.le_trans HB2.out.size (HF3.out.base k hk)) HB3.out.size))
      have ho4 := own_chg HO3.out hc4 (fun k hk h => HG3.out (by injection hk with hk; subst hk; exact h))
      have HG4 := Lib.hid (show ¬ Fp w2.heap.size gf g by
        rintro (e | e)
        · exact HG3.out (.inl e)
        · rcases hd4 with e' | ⟨k', e', hk'⟩
          · exact HG3.out (.inr (by rw [e, e']))
          · rw [e'] at e; injection e with e; subst e
            have := (HO3.out.lt g rfl).2; omega)
      have hcell := ho4.cellAt 0 (by omega)
      rw [List.getElem?_map, List.getElem?_eq_getElem hp, Option.map_some] at hcell
      have hfr := ho4.frozenAt 0
      obtain ⟨x0, hx0⟩ : ∃ x0, b[0] = x0 := ⟨_, rfl⟩
      rw [hx0] at hcell
      clear hf4 hc4 hd4 ho4 hx0
      go_wp2_with fail
      have hc5 := Chg.setCell w4 ⟨g, 0, none⟩ (.int .u8 ((x0 + 1) % 256))
      have HF5 := Lib.hid (HF4.out.chg hc5 (fun k e h => HG4.out (by rw [e] at h; exact h)))
      have HB5 := Lib.hid (HB4.out.setCell HG1.out (.int .u8 ((x0 + 1) % 256)) (p := ⟨g, 0, none⟩))
      clear hc5 hcell hfr
      generalize w4.setCell ⟨g, 0, none⟩ (.int .u8 ((x0 + 1) % 256)) = w5 at HF5 HB5 ⊢
      obtain ⟨m, hbm⟩ : ∃ m, b.length = m + 1 := ⟨b.length - 1, by omega⟩
      have hlm : (b.length : Int) - 1 = (m : Int) := by omega
      refine (bytes_any _ _ _ _ _ HF5.out (by simp; omega) rfl).mono ?_
      rintro e w6 ⟨A6, c6, rfl, hown6, hb6⟩
      obtain ⟨g6, hA6, hg6, hg6'⟩ := own_addr hown6 hp
      subst hA6
      have HF6 := Lib.hid (HF5.out.low hb6)
      have HG6 := Lib.hid (show ¬ Fp w2.heap.size gf g6 by
        rintro (e | e)
        · have := HF5.out.lt.1; omega
        · have := HF5.out.lt.2 g6 e.symm; omega)
      have HB6 := Lib.hid (HB5.out.trans (hb6.mono HB5.out.size))
      have HL6 := Lib.hid (show w.heap.size ≤ g6 from Nat.le_trans HB5.out.size hg6)
      have hcell := hown6.cellAt m (by show m < b.length * 1; omega)
      have hm1 : m < b.length := by omega
      rw [List.getElem?_map, List.getElem?_eq_getElem hm1, Option.map_some] at hcell
      have hfr := hown6.frozenAt m
      obtain ⟨x1, hx1⟩ : ∃ x1, b[m] = x1 := ⟨_, rfl⟩
      rw [hx1] at hcell
      clear hown6 hb6 hx1 hg6
      go_wp2_with fail
      have hc7 := Chg.setCell w6 ⟨g6, m, none⟩ (.int .u8 ((x1 - 1) % 256))
      have HF7 := Lib.hid (HF6.out.chg hc7 (fun k e h => HG6.out (by rw [e] at h; exact h)))
      have HB7 := Lib.hid (HB6.out.setCell HL6.out (.int .u8 ((x1 - 1) % 256)) (p := ⟨g6, m, none⟩))
      clear hc7 hcell hfr
      generalize w6.setCell ⟨g6, m, none⟩ (.int .u8 ((x1 - 1) % 256)) = w7 at HF7 HB7 ⊢
      refine (bytes_any _ _ _ _ _ HF7.out (by show b.length ≤ _; omega) rfl).mono ?_
      rintro e w8 ⟨A8, c8, rfl, hown8, hb8⟩
      have HB8 := Lib.hid (HB7.out.trans (hb8.mono HB7.out.size))
      have s1 := strU8 w8 A8 b (m + 1) c8 (Rd.of_own hown8) hbm
      have s2 := strU8 w8 A b (m + 1) c (HR.out.low HB8.out) hbm
      clear hown8 hb8
      go_wp2_with fail
      go_ret
      exact ⟨ret_bool (by simp), HB8.out⟩
  · skip
    go_enter Try.func4, Try.ntmps4
    go_wp2_with (go_at_call 9; refine (wakes_any _).mono ?_; rintro e w1 ⟨rfl, hb1⟩)
    go_ret
    exact ⟨rfl, hb1⟩

end Go.Proofs.Ytmabbdkckdpeoaa
