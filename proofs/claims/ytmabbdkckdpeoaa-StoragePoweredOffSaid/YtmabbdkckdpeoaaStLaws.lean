/- Layer 19: the walks of the laws. -/
import Derived.Test.YtmabbdkckdpeoaaStActs
import Derived.Lib.SlBytesConst
namespace Go.Proofs.Ytmabbdkckdpeoaa
set_option linter.unusedSimpArgs false
set_option linter.unusedVariables false
open Go.RowKit

theorem quiet_left {P : Program} {f : FuncId} {args : Array Value} {w : World} {n : Nat} {v : Value}
    (h : Calls P f args (w.drewN n) fun e w' => e = .returned v ∧ w.drewN n = w') : Calls P f args (w.drewN n) fun e w'' => e = .returned v ∧ ∃ m, w'' = w.drewN m :=
  h.mono fun _ _ ⟨he, hm⟩ => ⟨he, n, hm.symm⟩
theorem FileAt.drewN {w : World} {B p : Nat} {g : Option Nat} {t : St.T} (h : FileAt w B p g t) (n : Nat) : FileAt (w.drewN n) B p g t := h

set_option maxRecDepth 100000 in
theorem same_any (w : World) (B p : Nat) (g : Option Nat) (t : St.T) (v : Value) (N : Nat → Prop) (hf : FileAt w B p g t) (hl : t.data.length ≤ 16777216) (hv : TapeV w N v t) :
    Calls Try.prog 16 #[.pointer (some ⟨p, 0, none⟩), v] w fun e w' => e = .returned (.bool true) ∧ Below w.heap.size w w' := by
  obtain ⟨A, c, rfl, hr, hc, hm, hnn⟩ := hv
  have HF := Lib.hid hf
  have HR := Lib.hid hr
  clear hf hr hm hnn
  cases ho : t.off with
  | true =>
    have HOF := Lib.hid ho
    clear ho
    go_enter Try.func16, Try.ntmps16
    go_wp2_with fail
    refine (bytesOff_any _ B p g t (HF.out.low (by repeat (first | with_reducible exact Below.refl _ _ | (refine Below.alloc ?_ (by simp <;> omega) _)))) HOF.out).mono ?_
    rintro e w1 ⟨rfl, rfl⟩
    have HF2 := Lib.hid (HF.out.low ((Below.refl w.heap.size w).alloc (Nat.le_refl _) (.cells #[.slice A t.data.length c, .int .i64 t.lasts, .bool true] 37)))
    go_wp2
    go_quiet ((go_at_call 13; exact quiet_left (durable_any _ B p g t (HF2.out.drewN _))))
    go_wp2
    go_ret
    exact ⟨ret_bool (by simp), by repeat (first | with_reducible exact Below.refl _ _ | (refine Below.alloc ?_ (by simp <;> omega) _) | (refine Below.drew ?_) | (refine Below.drewN' ?_ _))⟩
  | false =>
    have HOF := Lib.hid ho
    clear ho
    go_enter Try.func16, Try.ntmps16
    go_wp2_with fail
    refine (bytes_any _ B p g t (HF.out.low (by repeat (first | with_reducible exact Below.refl _ _ | (refine Below.alloc ?_ (by simp <;> omega) _)))) hl HOF.out).mono ?_
    rintro e w1 ⟨A1, c1, rfl, hown1, hb1⟩
    have hbox := (Blk.new w 37 #[.slice A t.data.length c, .int .i64 t.lasts, .bool false]).low hb1
    have b0 := hbox.cell 0
    have b1 := hbox.cell 1
    have b2 := hbox.cell 2
    simp at b0 b1 b2
    have HB1 := Lib.hid (((Below.refl w.heap.size w).alloc (Nat.le_refl _) _).trans (hb1.mono (by simp <;> omega)))
    have HF2 := Lib.hid (HF.out.low HB1.out)
    have HR1 := Lib.hid (Rd.of_own hown1)
    have HR2 := Lib.hid (HR.out.low HB1.out)
    clear hown1 hb1 hbox
    have s1 := fun n => strU8 (w1.drewN n) A1 t.data _ c1 (HR1.out.drewN n) rfl
    have s2 := fun n => strU8 (w1.drewN n) A t.data _ c (HR2.out.drewN n) rfl
    go_wp2
    go_quiet ((go_at_call 13; exact quiet_left (durable_any _ B p g t (HF2.out.drewN _))))
    go_wp2
    go_ret
    have hb := HB1.out
    exact ⟨ret_bool (by simp), by repeat (first | with_reducible exact hb | (refine Below.drew ?_) | (refine Below.drewN' ?_ _))⟩


namespace St
theorem w1 : write new [97, 98, 99] = ⟨[97, 98, 99], 0, false⟩ ∧ writeE new [97, 98, 99] = 0 := ⟨rfl, rfl⟩
theorem w2 : sync ⟨[97, 98, 99], 0, false⟩ = ⟨[97, 98, 99], 3, false⟩ ∧ syncE ⟨[97, 98, 99], 0, false⟩ = 0 := ⟨rfl, rfl⟩
theorem w3 : write ⟨[97, 98, 99], 3, false⟩ [100, 101, 102] = ⟨[97, 98, 99, 100, 101, 102], 3, false⟩ ∧ writeE ⟨[97, 98, 99], 3, false⟩ [100, 101, 102] = 0 := ⟨rfl, rfl⟩
theorem w4 : cut ⟨[97, 98, 99, 100, 101, 102], 3, false⟩ 2 1 = ⟨[97, 98, 99, 100, 100], 5, true⟩ := rfl
theorem w5 : on ⟨[97, 98, 99, 100, 100], 5, true⟩ = ⟨[97, 98, 99, 100, 100], 5, false⟩ := rfl
theorem w6 : bstr [97, 98, 99, 100, 100] = ⟨#[97, 98, 99, 100, 100]⟩ := rfl
end St

theorem rdLit (w : World) (l : List Int) (cs : Array Value) (h : cs = (l.map (Value.int .u8)).toArray) (t : TypeId) (fr : Nat × Nat) : Rd (w.alloc (.cells cs t fr)) (some ⟨w.heap.size, 0, none⟩) (l.map (Value.int .u8)) :=
  Rd.block (heap_alloc_new w _) (by subst h; intro j v hj; simpa using hj)

set_option maxRecDepth 100000 in
theorem wakes_any (w : World) : Calls Try.prog 9 #[] w fun e w' => e = .returned (.bool true) ∧ Below w.heap.size w w' := by
  have kc := fun (w : World) (C : Array Value) (n c : Nat) => Lib.run_convert_bytes_const (P := Try.prog) w 22 5 C n c Try.underlying22 Try.underlying5
  go_enter Try.func9, Try.ntmps9
  go_wp2_with fail
  refine (new_any _).mono ?_
  rintro e wa ⟨rfl, hf0, hc0⟩
  have HF0 := Lib.hid hf0
  have HC0 := Lib.hid hc0
  clear hf0 hc0
  go_wp2_with fail
  refine (write_any _ w.heap.size w.heap.size none St.new [97, 98, 99] _ _ (HF0.out.low ((Below.refl _ _).alloc (Nat.le_refl _) _)) (by simp [St.new]) (rdLit wa [97, 98, 99] _ rfl _ _) (by unfold maxLen; simp)).mono ?_
  rw [St.w1.1, St.w1.2]
  rintro e wb ⟨rfl, g1, hf1, hc1, _⟩
  have HC1 := Lib.hid ((HC0.out.alloc HC0.out.size _).trans (hc1.below (fun k hk => HF0.out.base k hk) (le_alloc HC0.out.size _)))
  have HF1 := Lib.hid hf1
  clear hf1 hc1
  go_wp2_with fail
  refine (sync_any _ _ _ _ _ HF1.out (by simp)).mono ?_
  rw [St.w2.1, St.w2.2]
  rintro e wc ⟨rfl, g2, hf2, hc2, _⟩
  have HC2 := Lib.hid (HC1.out.trans (hc2.below (fun k hk => HF1.out.base k hk) HC1.out.size))
  have HF2 := Lib.hid hf2
  clear hf2 hc2
  go_wp2_with fail
  refine (write_any _ w.heap.size w.heap.size g2 _ [100, 101, 102] _ _ (HF2.out.low ((Below.refl _ _).alloc (Nat.le_refl _) _)) (by simp) (rdLit wc [100, 101, 102] _ rfl _ _) (by unfold maxLen; simp)).mono ?_
  rw [St.w3.1, St.w3.2]
  rintro e wd ⟨rfl, g3, hf3, hc3, _⟩
  have HC3 := Lib.hid ((HC2.out.alloc HC2.out.size _).trans (hc3.below (fun k hk => HF2.out.base k hk) (le_alloc HC2.out.size _)))
  have HF3 := Lib.hid hf3
  clear hf3 hc3
  go_wp2_with fail
  refine (powerFail_any _ _ _ _ _ 2 1 HF3.out (by simp) (by omega)).mono ?_
  rw [St.w4]
  rintro e we ⟨rfl, g4, hf4, hc4, _⟩
  have HC4 := Lib.hid (HC3.out.trans (hc4.below (fun k hk => HF3.out.base k hk) HC3.out.size))
  have HF4 := Lib.hid hf4
  clear hf4 hc4
  go_wp2_with fail
  refine (bytesOff_any _ _ _ _ _ HF4.out rfl).mono ?_
  rintro e w' ⟨rfl, rfl⟩
  go_wp2_with fail
  refine (powerOn_any _ _ _ _ _ HF4.out).mono ?_
  rw [St.w5]
  rintro e wf ⟨rfl, g5, hf5, hc5, _⟩
  have HC5 := Lib.hid (HC4.out.trans (hc5.below (fun k hk => HF4.out.base k hk) HC4.out.size))
  have HF5 := Lib.hid hf5
  clear hf5 hc5
  go_wp2_with fail
  refine (bytes_any _ _ _ _ _ HF5.out (by simp) rfl).mono ?_
  rintro e wg ⟨A6, c6, rfl, hown6, hb6⟩
  have HC6 := Lib.hid (HC5.out.trans (hb6.mono HC5.out.size))
  have HF6 := Lib.hid (HF5.out.low hb6)
  have s1 := strU8 wg A6 [97, 98, 99, 100, 100] 5 c6 (Rd.of_own hown6) rfl
  rw [St.w6] at s1
  clear hown6 hb6
  go_wp2_with (go_at_call 13; refine (durable_any _ _ _ _ _ HF6.out).mono ?_; rintro e w' ⟨rfl, rfl⟩)
  go_ret
  exact ⟨ret_bool (by simp), HC6.out⟩

end Go.Proofs.Ytmabbdkckdpeoaa
