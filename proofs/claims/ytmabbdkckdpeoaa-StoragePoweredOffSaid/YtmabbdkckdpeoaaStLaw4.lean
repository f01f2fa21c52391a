/- Layer 19: StorageSplitWrites walked. -/
import Derived.Test.YtmabbdkckdpeoaaStLaw3
namespace Go.Proofs.Ytmabbdkckdpeoaa
set_option linter.unusedSimpArgs false
set_option linter.unusedVariables false
open Go.RowKit

theorem FileAt.disj {w : World} {B1 B2 p1 p2 : Nat} {g1 g2 : Option Nat} {t1 t2 : St.T} (h1 : FileAt w B1 p1 g1 t1) (h2 : FileAt w B2 p2 g2 t2) (hp : p1 ≠ p2) (hg : ∀ k, g1 = some k → g2 ≠ some k) : ∀ k, Fp p1 g1 k → ¬ Fp p2 g2 k := by
  obtain ⟨_, A1, c1, b1, o1, e1⟩ := h1
  obtain ⟨_, A2, c2, b2, o2, e2⟩ := h2
  rintro k (h | h) (h' | h')
  · exact hp (by rw [← h, h'])
  · exact (own_ne o2 b1 (by decide)) (by rw [e2, ← h', h])
  · exact (own_ne o1 b2 (by decide)) (by rw [e1, ← h, h'])
  · exact hg k h.symm h'.symm
theorem FileTo.fresh {w w' : World} {B p : Nat} {g : Option Nat} {t' : St.T} (h : FileTo w w' B p g t') : ∃ g', FileAt w' B p g' t' ∧ Chg (Fp p g) w w' ∧ (g' = g ∨ ∃ k, g' = some k ∧ w.heap.size ≤ k) := h

namespace St
theorem w_all (b : List Int) (h : b.length ≤ 2000) : write new b = ⟨b, 0, false⟩ ∧ writeE new b = 0 := by
  have hf : fits new b = true := by unfold fits new; simp; omega
  constructor
  · unfold write; rw [hf]; simp [new]
  · unfold writeE; rw [hf]; rfl
theorem w_more (a b : List Int) (h : a.length + b.length ≤ 2000) : write ⟨a, 0, false⟩ b = ⟨a ++ b, 0, false⟩ ∧ writeE ⟨a, 0, false⟩ b = 0 := by
  have hf : fits ⟨a, 0, false⟩ b = true := by unfold fits; simp; omega
  constructor
  · unfold write; rw [hf]; rfl
  · unfold writeE; rw [hf]; rfl
end St

set_option maxRecDepth 100000 in
set_option maxHeartbeats 1000000 in
theorem split_walk (A : Option Addr) (b : List Int) (c : Nat) (a : Int) (w : World) (hr : Rd w A (b.map (.int .u8))) (hc : b.length ≤ c) (hm : c ≤ maxLen) (ha : 0 ≤ a ∧ a ≤ 65535) :
    Calls Try.prog 3 #[.slice A b.length c, .int .u16 a] w fun e w' => e = .returned (.bool true) ∧ Below w.heap.size w w' := by
  have HR := Lib.hid hr
  have HM := Lib.hid hm
  obtain ⟨ha0, ha1⟩ := ha
  unfold maxLen at hm
  clear hr
  by_cases hl : b.length ≤ 2000
  · obtain ⟨n, rfl⟩ := Int.eq_ofNat_of_zero_le ha0
    obtain ⟨k, hk⟩ : ∃ k, n % (b.length + 1) = k := ⟨_, rfl⟩
    have hkl : k ≤ b.length := by have := Nat.mod_lt n (show 0 < b.length + 1 by omega); omega
    have hki : (n : Int) % ((b.length : Int) + 1) = (k : Int) := by rw [← hk]; push_cast; rfl
    have hsl := fun W => run_from slU8 A b.length c k hkl W
    have hp1 : 1 ≤ (b.length : Int) + 1 := by omega
    clear hk
    go_enter Try.func3, Try.ntmps3
    go_wp2_with fail
    refine (wakes_any _).mono ?_
    rintro e w1 ⟨rfl, hb1⟩
    have HB1 := Lib.hid hb1
    clear hb1
    go_wp2_with fail
    refine (new_any _).mono ?_
    rintro e w2 ⟨rfl, hs2, hb2⟩
    have HB2 := Lib.hid (HB1.out.trans (hb2.mono HB1.out.size))
    have hz2 := hs2.lt.1
    have HS2 := Lib.hid hs2
    clear hs2 hb2
    go_wp2_with fail
    refine (new_any _).mono ?_
    rintro e w3 ⟨rfl, ht3, hb3⟩
    have HB3 := Lib.hid (HB2.out.trans (hb3.mono HB2.out.size))
    have HS3 := Lib.hid (HS2.out.low hb3)
    have HT3 := Lib.hid ht3
    have hz3 := ht3.lt.1
    clear ht3 hb3
    have HNE := Lib.hid (show w1.heap.size ≠ w2.heap.size by omega)
    go_wp2_with fail
    refine (write_any _ _ _ _ St.new b A c HS3.out (by simp [St.new]) (HR.out.low HB3.out) (Nat.le_trans hc HM.out)).mono ?_
    rw [(St.w_all b hl).1, (St.w_all b hl).2]
    rintro e w4 ⟨rfl, gs, hs4, hc4, hd4⟩
    have HS4 := Lib.hid hs4
    have HT4 := Lib.hid (HT3.out.chg hc4 (fun k h h' => (HS3.out.disj HT3.out HNE.out (fun k e => by cases e)) k h h'))
    have HB4 := Lib.hid (HB3.out.trans (hc4.below (fun k hk => Nat.le_trans HB1.out.size (HS3.out.base k hk)) HB3.out.size))
    clear hs4 hc4 hd4
    go_wp2_with fail
    have hw5 := write_any _ _ _ _ St.new (b.take k) A c HT4.out (by simp [St.new]) ((HR.out.low HB4.out).take k) (by rw [List.length_take]; have := HM.out; omega)
    rw [show (b.take k).length = k by rw [List.length_take]; omega] at hw5
    refine hw5.mono ?_
    clear hw5
    rw [(St.w_all (b.take k) (by rw [List.length_take]; omega)).1, (St.w_all (b.take k) (by rw [List.length_take]; omega)).2]
    rintro e w5 ⟨rfl, gt, ht5, hc5, hd5⟩
    have HS5 := Lib.hid (HS4.out.chg hc5 (fun k h h' => (HT4.out.disj HS4.out HNE.out.symm (fun k e => by cases e)) k h h'))
    have HB5 := Lib.hid (HB4.out.trans (hc5.below (fun k hk => Nat.le_trans HB2.out.size (HT4.out.base k hk)) HB4.out.size))
    have HG5 := Lib.hid (show ∀ k, gt = some k → gs ≠ some k by
      intro k e h
      rcases hd5 with e' | ⟨k', e', hk'⟩
      · rw [e'] at e; cases e
      · rw [e'] at e; injection e with e; subst e; have := HS4.out.lt.2 k' h; omega)
    have HT5 := Lib.hid ht5
    clear ht5 hc5 hd5
    go_wp2_with fail
    have hcut := (HR.out.low HB5.out).cut (size := 1) c k (by rw [List.length_map]; omega)
    rw [Nat.mul_one, ← List.map_drop] at hcut
    have hw6 := write_any _ _ _ _ ⟨b.take k, 0, false⟩ (b.drop k) (cutA A c k 1) (c - k) HT5.out (by simp; omega) hcut (by rw [List.length_drop]; have := HM.out; omega)
    rw [show (b.drop k).length = b.length - k by rw [List.length_drop]] at hw6
    refine hw6.mono ?_
    clear hw6 hcut
    rw [(St.w_more (b.take k) (b.drop k) (by rw [List.length_take, List.length_drop]; omega)).1, (St.w_more (b.take k) (b.drop k) (by rw [List.length_take, List.length_drop]; omega)).2, List.take_append_drop]
    rintro e w6 ⟨rfl, gt2, ht6, hc6, hd6⟩
    have HS6 := Lib.hid (HS5.out.chg hc6 (fun k h h' => (HT5.out.disj HS5.out HNE.out.symm HG5.out) k h h'))
    have HB6 := Lib.hid (HB5.out.trans (hc6.below (fun k hk => Nat.le_trans HB2.out.size (HT5.out.base k hk)) HB5.out.size))
    have HT6 := Lib.hid ht6
    clear ht6 hc6 hd6 hsl
    go_wp2_with fail
    refine (bytes_any _ _ _ _ _ HS6.out (by simp; omega) rfl).mono ?_
    rintro e w7 ⟨A7, c7, rfl, hown7, hb7⟩
    have HS7 := Lib.hid (HS6.out.low hb7)
    have HT7 := Lib.hid (HT6.out.low hb7)
    have HB7 := Lib.hid (HB6.out.trans (hb7.mono HB6.out.size))
    have HX7 := Lib.hid (Rd.of_own hown7)
    clear hown7 hb7
    go_wp2_with fail
    refine (bytes_any _ _ _ _ _ HT7.out (by simp; omega) rfl).mono ?_
    rintro e w8 ⟨A8, c8, rfl, hown8, hb8⟩
    have HS8 := Lib.hid (HS7.out.low hb8)
    have HB8 := Lib.hid (HB7.out.trans (hb8.mono HB7.out.size))
    have s1 := strU8 w8 A7 b _ c7 (HX7.out.low hb8) rfl
    have s2 := strU8 w8 A8 b _ c8 (Rd.of_own hown8) rfl
    have s3 := strU8 w8 A b _ c (HR.out.low HB8.out) rfl
    clear hown8 hb8
    go_wp2_with (go_at_call 13; refine (durable_any _ _ _ _ _ HS8.out).mono ?_; rintro e w' ⟨rfl, rfl⟩)
    go_ret
    exact ⟨ret_bool (by simp), HB8.out⟩
  · skip
    go_enter Try.func3, Try.ntmps3
    go_wp2_with (go_at_call 9; refine (wakes_any _).mono ?_; rintro e w1 ⟨rfl, hb1⟩)
    go_ret
    exact ⟨rfl, hb1⟩

end Go.Proofs.Ytmabbdkckdpeoaa
