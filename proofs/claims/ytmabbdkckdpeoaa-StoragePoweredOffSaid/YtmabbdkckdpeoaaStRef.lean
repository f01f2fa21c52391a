/- The reference of layer 19, walked. -/
import Derived.Test.YtmabbdkckdpeoaaSt
namespace Go.Proofs.Ytmabbdkckdpeoaa
set_option linter.unusedSimpArgs false
set_option linter.unusedVariables false
open Go.RowKit

/-- a Tape value: its bytes lie somewhere and are only read -/
def TapeV (w : World) (N : Nat → Prop) (v : Value) (t : St.T) : Prop :=
  ∃ A c, v = .agg #[.slice A t.data.length c, .int .i64 t.lasts, .bool t.off] ∧ Rd w A (t.data.map (.int .u8)) ∧ t.data.length ≤ c ∧ c ≤ maxLen ∧ (∀ ad, A = some ad → 0 < t.data.length → N ad.block)
/-- where it was, or in a block that was not there -/
def NewOr (N : Nat → Prop) (s : Nat) : Nat → Prop := fun k => N k ∨ s ≤ k

theorem TapeV.low {w w' : World} {N : Nat → Prop} {v : Value} {t : St.T} (h : TapeV w N v t) (hb : Below w.heap.size w w') : TapeV w' N v t := by
  obtain ⟨A, c, rfl, hr, hc, hm, hn⟩ := h
  exact ⟨A, c, rfl, hr.low hb, hc, hm, hn⟩
theorem TapeV.to {w : World} {N N' : Nat → Prop} {v : Value} {t : St.T} (h : TapeV w N v t) (hn' : ∀ k, N k → N' k) : TapeV w N' v t := by
  obtain ⟨A, c, rfl, hr, hc, hm, hn⟩ := h
  exact ⟨A, c, rfl, hr, hc, hm, fun ad e hd => hn' _ (hn ad e hd)⟩
theorem TapeV.new {w : World} {N : Nat → Prop} {v : Value} {t : St.T} (h : TapeV w N v t) (s : Nat) : TapeV w (NewOr N s) v t := h.to fun _ h => .inl h

theorem most_any (w : World) : Calls Try.prog 27 #[] w fun e w' => e = .returned (.int .i64 16777216) ∧ w' = w := by
  go_enter Try.func27, Try.ntmps27
  go_wp2
  go_ret
  exact ⟨rfl, rfl⟩

theorem refOn_any (w : World) (v : Value) (t : St.T) (N : Nat → Prop) (h : TapeV w N v t) :
    Calls Try.prog 25 #[v] w fun e w' => ∃ v', e = .returned v' ∧ TapeV w' (NewOr N w.heap.size) v' (St.on t) ∧ Below w.heap.size w w' := by
  obtain ⟨A, c, rfl, hr, hc, hm, hnn⟩ := h
  have HR := Lib.hid hr
  have HNN := Lib.hid hnn
  clear hr hnn
  go_enter Try.func25, Try.ntmps25
  go_wp2
  refine bodyPost_ret (v := .agg #[.slice A t.data.length c, .int .i64 t.lasts, .bool false]) (by simp [results, Try.results25, go_sem]) rfl ?_
  exact ⟨_, rfl, andB (by repeat (first | with_reducible exact Below.refl _ _ | (refine Below.alloc ?_ (by simp <;> omega) _) | (refine Below.setCell ?_ (by simp <;> omega) _) | (refine Below.drew ?_) | (refine Below.drewN' ?_ _))) (fun hb => ⟨A, c, rfl, HR.out.low hb, hc, hm, fun ad e hd => .inl (HNN.out ad e hd)⟩)⟩

theorem refSync_any (w : World) (v : Value) (t : St.T) (N : Nat → Prop) (h : TapeV w N v t) (hl : t.data.length ≤ 16777216) :
    Calls Try.prog 23 #[v] w fun e w' => ∃ v', e = .returned (.tuple #[v', .int .i64 (St.syncE t)]) ∧ TapeV w' (NewOr N w.heap.size) v' (St.sync t) ∧ Below w.heap.size w w' := by
  obtain ⟨A, c, rfl, hr, hc, hm, hnn⟩ := h
  have HR := Lib.hid hr
  have HNN := Lib.hid hnn
  clear hr hnn
  cases ho : t.off with
  | true =>
    have HOF := Lib.hid ho
    clear ho
    go_enter Try.func23, Try.ntmps23
    go_wp2
    refine bodyPost_ret (v := .tuple #[.agg #[.slice A t.data.length c, .int .i64 t.lasts, .bool true], .int .i64 7]) (by simp [results, Try.results23, go_sem]) rfl ?_
    exact ⟨_, by unfold St.syncE; rw [HOF.out]; rfl, andB (by repeat (first | with_reducible exact Below.refl _ _ | (refine Below.alloc ?_ (by simp <;> omega) _) | (refine Below.setCell ?_ (by simp <;> omega) _) | (refine Below.drew ?_) | (refine Below.drewN' ?_ _))) (fun hb => by rw [show St.sync t = t by unfold St.sync; rw [HOF.out]; rfl]; exact ⟨A, c, by rw [HOF.out], HR.out.low hb, hc, hm, fun ad e hd => .inl (HNN.out ad e hd)⟩)⟩
  | false =>
    have HOF := Lib.hid ho
    clear ho
    go_enter Try.func23, Try.ntmps23
    go_wp2
    refine bodyPost_ret (v := .tuple #[.agg #[.slice A t.data.length c, .int .i64 t.data.length, .bool false], .int .i64 0]) (by simp [results, Try.results23, go_sem]) rfl ?_
    exact ⟨_, by unfold St.syncE; rw [HOF.out]; rfl, andB (by repeat (first | with_reducible exact Below.refl _ _ | (refine Below.alloc ?_ (by simp <;> omega) _) | (refine Below.setCell ?_ (by simp <;> omega) _) | (refine Below.drew ?_) | (refine Below.drewN' ?_ _))) (fun hb => by unfold St.sync; rw [HOF.out]; exact ⟨A, c, by simp [HOF.out], HR.out.low hb, hc, hm, fun ad e hd => .inl (HNN.out ad e hd)⟩)⟩

theorem refShort_any (w : World) (v : Value) (t : St.T) (n : Int) (N : Nat → Prop) (h : TapeV w N v t) (hl : t.lasts ≤ t.data.length ∧ t.data.length ≤ 16777216) :
    Calls Try.prog 26 #[v, .int .i64 n] w fun e w' => ∃ v', e = .returned (.tuple #[v', .int .i64 (St.shortE t n)]) ∧ TapeV w' (NewOr N w.heap.size) v' (St.short t n) ∧ Below w.heap.size w w' := by
  have h' := h
  obtain ⟨A, c, rfl, hr, hc, hm, hnn⟩ := h
  obtain ⟨hl1, hl2⟩ := hl
  have HR := Lib.hid hr
  have HT := Lib.hid h'
  have HM := Lib.hid hm
  have HNN := Lib.hid hnn
  clear hr h' hm hnn
  by_cases hn : 0 ≤ n ∧ n ≤ t.data.length
  · have HS := Lib.hid hn
    obtain ⟨k, rfl⟩ := Int.eq_ofNat_of_zero_le hn.1
    have hkl : k ≤ t.data.length := by omega
    clear hn
    cases ho : t.off with
    | true =>
      have HOF := Lib.hid ho
      clear ho
      go_enter Try.func26, Try.ntmps26
      go_wp2
      refine bodyPost_ret (v := .tuple #[.agg #[.slice A t.data.length c, .int .i64 t.lasts, .bool true], .int .i64 7]) (by simp [results, Try.results26, go_sem]) rfl ?_
      exact ⟨_, by unfold St.shortE; rw [if_pos HS.out, HOF.out]; rfl, andB (by repeat (first | with_reducible exact Below.refl _ _ | (refine Below.alloc ?_ (by simp <;> omega) _) | (refine Below.setCell ?_ (by simp <;> omega) _) | (refine Below.drew ?_) | (refine Below.drewN' ?_ _))) (fun hb => by rw [show St.short t (k : Int) = t by unfold St.short; rw [if_pos HS.out, HOF.out]; rfl]; exact ⟨A, c, by rw [HOF.out], HR.out.low hb, hc, HM.out, fun ad e hd => .inl (HNN.out ad e hd)⟩)⟩
    | false =>
      have HOF := Lib.hid ho
      clear ho
      have e : St.short t (k : Int) = { t with data := t.data.take k, lasts := min t.lasts k } := by unfold St.short; rw [if_pos HS.out, HOF.out]; rfl
      have hlen : (t.data.take k).length = k := by rw [List.length_take]; omega
      have HE := Lib.hid e
      have HLN := Lib.hid hlen
      have hkc : k ≤ c := by omega
      clear e hlen
      have HG2 := Lib.hid (fun (o o' : Obj) => show ((w.alloc o).alloc o').heap.size = w.heap.size + 2 by simp)
      have FIN := fun (A2 : Option Addr) (c2 z : Nat) (w2 w' : World) (hz : z = min t.lasts k) (hb : Below w.heap.size w w') (ho : w'.ownsRow (w.heap.size + 2) 5 1 (.slice A2 k c2) k ((t.data.take k).map (.int .u8))) =>
        show ∃ v', Ending.returned (.tuple #[.agg #[.slice A2 k c2, .int .i64 z, .bool false], .int .i64 0]) = Ending.returned (.tuple #[v', .int .i64 (St.shortE t (k : Int))]) ∧ TapeV w' (NewOr N w.heap.size) v' (St.short t (k : Int)) ∧ Below w.heap.size w w' from
        ⟨_, by unfold St.shortE; rw [if_pos HS.out, HOF.out]; rfl, by rw [HE.out, hz]; exact ⟨A2, c2, by rw [HLN.out, HOF.out], Rd.of_own ho, by rw [HLN.out]; exact (own_cap ho).1, (own_cap ho).2, fun ad ea hd => .inr (Nat.le_trans (by omega) (own_new ho (by rw [HLN.out] at hd; exact hd) ad ea))⟩, hb⟩
      have HFIN := Lib.hid FIN
      clear FIN
      by_cases hlt : k < t.lasts
      · go_enter Try.func26, Try.ntmps26
        go_wp2_with (at_builtin; go_must (refine wpList_app k ((t.data.take k).map (.int .u8)) rfl rfl slU8 (own_lit (base := w.heap.size + 2) #[] 0 (w.heap.size + 2) (HG2.out _ _) (by omega) (by omega) rfl) rfl ((HR.out.take k).low (by repeat (first | with_reducible exact Below.refl _ _ | (refine Below.alloc ?_ (by simp <;> omega) _) | (refine Below.setCell ?_ (by simp <;> omega) _) | (refine Below.drew ?_) | (refine Below.drewN' ?_ _)))) rfl (by simp <;> omega) oneCell_ints (by unfold maxLen; omega) (by simp <;> omega) (by omega) rfl ?_); intro A2 c2 w2 hown2 hbel2 _ _; have hb1 := ((((Blk.new w 37 #[.slice A t.data.length c, .int .i64 t.lasts, .bool false]).alloc (.cells #[.slice none 0 0, .int .i64 0, .bool false] 37)).alloc (.cells #[] 5)).below hbel2 (by omega)); have hb2 := (((Blk.new (w.alloc (.cells #[.slice A t.data.length c, .int .i64 t.lasts, .bool false] 37)) 37 #[.slice none 0 0, .int .i64 0, .bool false]).alloc (.cells #[] 5)).below hbel2 (by simp)); have x0 := hb1.cell 0; have x1 := hb1.cell 1; have x2 := hb1.cell 2; have y0 := hb2.cell 0; have y1 := hb2.cell 1; have y2 := hb2.cell 2; have z0 := hb1.frozen 0; have z1 := hb1.frozen 1; have v0 := hb2.frozen 0; have v1 := hb2.frozen 1; have v2 := hb2.frozen 2; simp at x0 x1 x2 y0 y1 y2 v0 v1 v2; have HO2 := Lib.hid hown2; have HBL2 := Lib.hid hbel2; clear hb1 hb2 hown2 hbel2)
        have W0 : Below w.heap.size w w2 := Below.trans (by repeat (first | with_reducible exact Below.refl _ _ | (refine Below.alloc ?_ (by simp <;> omega) _) | (refine Below.setCell ?_ (by simp <;> omega) _) | (refine Below.drew ?_) | (refine Below.drewN' ?_ _))) (HBL2.out.mono (by omega))
        refine bodyPost_ret (v := .tuple #[.agg #[.slice A2 k c2, .int .i64 (k : Int), .bool false], .int .i64 0]) (by simp [results, Try.results26, go_sem, x0, x1, x2, y0, y1, y2, v0, v1, v2, z0, z1]) rfl ?_
        exact HFIN.out A2 c2 k w2 _ (by omega) (by repeat (first | with_reducible exact W0 | (refine Below.setCell ?_ (by simp <;> omega) _))) (by repeat (first | with_reducible exact HO2.out | (refine ownsRow_setCell_below ?_ (by simp <;> omega) _)))
      · go_enter Try.func26, Try.ntmps26
        go_wp2_with (at_builtin; go_must (refine wpList_app k ((t.data.take k).map (.int .u8)) rfl rfl slU8 (own_lit (base := w.heap.size + 2) #[] 0 (w.heap.size + 2) (HG2.out _ _) (by omega) (by omega) rfl) rfl ((HR.out.take k).low (by repeat (first | with_reducible exact Below.refl _ _ | (refine Below.alloc ?_ (by simp <;> omega) _) | (refine Below.setCell ?_ (by simp <;> omega) _) | (refine Below.drew ?_) | (refine Below.drewN' ?_ _)))) rfl (by simp <;> omega) oneCell_ints (by unfold maxLen; omega) (by simp <;> omega) (by omega) rfl ?_); intro A2 c2 w2 hown2 hbel2 _ _; have hb1 := ((((Blk.new w 37 #[.slice A t.data.length c, .int .i64 t.lasts, .bool false]).alloc (.cells #[.slice none 0 0, .int .i64 0, .bool false] 37)).alloc (.cells #[] 5)).below hbel2 (by omega)); have hb2 := (((Blk.new (w.alloc (.cells #[.slice A t.data.length c, .int .i64 t.lasts, .bool false] 37)) 37 #[.slice none 0 0, .int .i64 0, .bool false]).alloc (.cells #[] 5)).below hbel2 (by simp)); have x0 := hb1.cell 0; have x1 := hb1.cell 1; have x2 := hb1.cell 2; have y0 := hb2.cell 0; have y1 := hb2.cell 1; have y2 := hb2.cell 2; have z0 := hb1.frozen 0; have z1 := hb1.frozen 1; have v0 := hb2.frozen 0; have v1 := hb2.frozen 1; have v2 := hb2.frozen 2; simp at x0 x1 x2 y0 y1 y2 v0 v1 v2; have HO2 := Lib.hid hown2; have HBL2 := Lib.hid hbel2; clear hb1 hb2 hown2 hbel2)
        have W0 : Below w.heap.size w w2 := Below.trans (by repeat (first | with_reducible exact Below.refl _ _ | (refine Below.alloc ?_ (by simp <;> omega) _) | (refine Below.setCell ?_ (by simp <;> omega) _) | (refine Below.drew ?_) | (refine Below.drewN' ?_ _))) (HBL2.out.mono (by omega))
        refine bodyPost_ret (v := .tuple #[.agg #[.slice A2 k c2, .int .i64 (t.lasts : Int), .bool false], .int .i64 0]) (by simp [results, Try.results26, go_sem, x0, x1, x2, y0, y1, y2, v0, v1, v2, z0, z1]) rfl ?_
        exact HFIN.out A2 c2 t.lasts w2 _ (by omega) (by repeat (first | with_reducible exact W0 | (refine Below.setCell ?_ (by simp <;> omega) _))) (by repeat (first | with_reducible exact HO2.out | (refine ownsRow_setCell_below ?_ (by simp <;> omega) _)))

  · by_cases hn0 : n < 0
    · have HS := Lib.hid hn
      clear hn
      go_enter Try.func26, Try.ntmps26
      go_wp2
      refine bodyPost_ret (v := .tuple #[.agg #[.slice A t.data.length c, .int .i64 t.lasts, .bool t.off], .int .i64 1]) (by simp [results, Try.results26, go_sem]) rfl ?_
      exact ⟨_, by unfold St.shortE; rw [if_neg HS.out], andB (by repeat (first | with_reducible exact Below.refl _ _ | (refine Below.alloc ?_ (by simp <;> omega) _) | (refine Below.setCell ?_ (by simp <;> omega) _) | (refine Below.drew ?_) | (refine Below.drewN' ?_ _))) (fun hb => by rw [show St.short t n = t by unfold St.short; rw [if_neg HS.out]]; exact (HT.out.low hb).new _)⟩
    · have hn1 : (t.data.length : Int) < n := by omega
      have HS := Lib.hid hn
      clear hn
      go_enter Try.func26, Try.ntmps26
      go_wp2
      refine bodyPost_ret (v := .tuple #[.agg #[.slice A t.data.length c, .int .i64 t.lasts, .bool t.off], .int .i64 1]) (by simp [results, Try.results26, go_sem]) rfl ?_
      exact ⟨_, by unfold St.shortE; rw [if_neg HS.out], andB (by repeat (first | with_reducible exact Below.refl _ _ | (refine Below.alloc ?_ (by simp <;> omega) _) | (refine Below.setCell ?_ (by simp <;> omega) _) | (refine Below.drew ?_) | (refine Below.drewN' ?_ _))) (fun hb => by rw [show St.short t n = t by unfold St.short; rw [if_neg HS.out]]; exact (HT.out.low hb).new _)⟩


theorem refWrite_any (w : World) (v : Value) (t : St.T) (A' : Option Addr) (b : List Int) (c' : Nat) (N : Nat → Prop) (h : TapeV w N v t) (hl : t.data.length ≤ 16777216) (hr' : Rd w A' (b.map (.int .u8))) (hbl : b.length ≤ maxLen) :
    Calls Try.prog 22 #[v, .slice A' b.length c'] w fun e w' => ∃ v', e = .returned (.tuple #[v', .int .i64 (St.writeE t b)]) ∧ TapeV w' (NewOr N w.heap.size) v' (St.write t b) ∧ Below w.heap.size w w' := by
  have h' := h
  obtain ⟨A, c, rfl, hr, hc, hm, hnn⟩ := h
  unfold maxLen at hbl
  have HR := Lib.hid hr
  have HRB := Lib.hid hr'
  have HT := Lib.hid h'
  have HM := Lib.hid hm
  have HNN := Lib.hid hnn
  clear hr h' hm hr' hnn
  cases ho : t.off with
  | true =>
    have HOF := Lib.hid ho
    clear ho
    go_enter Try.func22, Try.ntmps22
    go_wp2
    refine bodyPost_ret (v := .tuple #[.agg #[.slice A t.data.length c, .int .i64 t.lasts, .bool true], .int .i64 7]) (by simp [results, Try.results22, go_sem]) rfl ?_
    exact ⟨_, by unfold St.writeE; rw [HOF.out]; rfl, andB (by repeat (first | with_reducible exact Below.refl _ _ | (refine Below.alloc ?_ (by simp <;> omega) _) | (refine Below.setCell ?_ (by simp <;> omega) _) | (refine Below.drew ?_) | (refine Below.drewN' ?_ _))) (fun hb => by rw [show St.write t b = t by unfold St.write; rw [HOF.out]; rfl]; have := (HT.out.low hb).new w.heap.size; rw [HOF.out] at this; exact this)⟩
  | false =>
    have HOF := Lib.hid ho
    clear ho
    by_cases hf : t.data.length + b.length ≤ 16777216
    · have HF := Lib.hid (show St.fits t b = true by unfold St.fits; exact decide_eq_true hf)
      have e : St.write t b = { t with data := t.data ++ b } := by unfold St.write; rw [HOF.out, HF.out]; rfl
      have FIN := fun (A2 : Option Addr) (c2 : Nat) (w' : World) (hb : Below w.heap.size w w') (ho : w'.ownsRow (w.heap.size + 2) 5 1 (.slice A2 (t.data.length + b.length) c2) (t.data.length + b.length) ((t.data ++ b).map (.int .u8))) =>
        show ∃ v', Ending.returned (.tuple #[.agg #[.slice A2 (t.data.length + b.length) c2, .int .i64 t.lasts, .bool false], .int .i64 0]) = Ending.returned (.tuple #[v', .int .i64 (St.writeE t b)]) ∧ TapeV w' (NewOr N w.heap.size) v' (St.write t b) ∧ Below w.heap.size w w' from
        ⟨_, by unfold St.writeE; rw [HOF.out, HF.out]; rfl, by rw [e]; exact ⟨A2, c2, by simp [HOF.out], Rd.of_own ho, by simpa using (own_cap ho).1, (own_cap ho).2, fun ad ea hd => .inr (Nat.le_trans (by omega) (own_new ho (by simpa using hd) ad ea))⟩, hb⟩
      have HFIN := Lib.hid FIN
      clear FIN
      have HG2 := Lib.hid (fun (o o' : Obj) (n : Nat) => show (((w.alloc o).alloc o').drewN n).heap.size = w.heap.size + 2 by simp)
      clear e
      go_enter Try.func22, Try.ntmps22
      go_wp2
      go_quiet ((go_at_call 27; exact Calls.quiet_of_same (most_any _)))
      go_wp2_with (first
        | (at_builtin; refine wpList_app t.data.length (t.data.map (.int .u8)) rfl rfl slU8 (own_lit (base := w.heap.size + 2) #[] 0 (w.heap.size + 2) (HG2.out _ _ _) (by omega) (by omega) rfl) rfl (HR.out.low (by repeat (first | with_reducible exact Below.refl _ _ | (refine Below.alloc ?_ (by simp <;> omega) _) | (refine Below.setCell ?_ (by simp <;> omega) _) | (refine Below.drew ?_) | (refine Below.drewN' ?_ _)))) rfl (by simp) oneCell_ints (by unfold maxLen; omega) (by simp <;> omega) (by omega) rfl ?_; intro A2 c2 w2 hown2 hbel2 _ _; have W2 : Below w.heap.size w w2 := Below.trans (by repeat (first | with_reducible exact Below.refl _ _ | (refine Below.alloc ?_ (by simp <;> omega) _) | (refine Below.setCell ?_ (by simp <;> omega) _) | (refine Below.drew ?_) | (refine Below.drewN' ?_ _))) (hbel2.mono (by omega)); have HO2 := Lib.hid hown2; have HBL2 := Lib.hid hbel2; have HW2 := Lib.hid W2; have hsz2 : w.heap.size + 2 ≤ w2.heap.size := by have := hbel2.size; simp at this; omega
           have HS2 := Lib.hid hsz2
           clear hown2 hbel2 W2 hsz2)
        | (at_builtin; refine wpList_app (t.data.length + b.length) ((t.data ++ b).map (.int .u8)) rfl rfl slU8 HO2.out rfl (HRB.out.low HW2.out) rfl (by simp) oneCell_ints (by unfold maxLen; omega) HS2.out rfl (by simp) ?_; intro A3 c3 w3 hown3 hbel3 _ _; have HBL3 := HBL2.out.trans hbel3
           have hb1 := ((((Blk.new w 37 #[.slice A t.data.length c, .int .i64 t.lasts, .bool false]).alloc (.cells #[.slice none 0 0, .int .i64 0, .bool false] 37)).drewN nq).alloc (.cells #[] 5)).below HBL3 (by omega); have hb2 := (((Blk.new (w.alloc (.cells #[.slice A t.data.length c, .int .i64 t.lasts, .bool false] 37)) 37 #[.slice none 0 0, .int .i64 0, .bool false]).drewN nq).alloc (.cells #[] 5)).below HBL3 (by simp); have x0 := hb1.cell 0; have x1 := hb1.cell 1; have x2 := hb1.cell 2; have y0 := hb2.cell 0; have y1 := hb2.cell 1; have y2 := hb2.cell 2; have z0 := hb1.frozen 0; have z1 := hb1.frozen 1; have v0 := hb2.frozen 0; have v1 := hb2.frozen 1; have v2 := hb2.frozen 2; simp at x0 x1 x2 y0 y1 y2 v0 v1 v2; have HO3 := Lib.hid hown3; have HW3 := Lib.hid (HW2.out.trans (hbel3.mono (by omega))); clear hb1 hb2 HBL3 hown3 hbel3))
      refine bodyPost_ret (v := .tuple #[.agg #[.slice A3 (t.data.length + b.length) c3, .int .i64 t.lasts, .bool false], .int .i64 0]) (by simp [results, Try.results22, go_sem, x0, x1, x2, y0, y1, y2, v0, v1, v2, z0, z1]) rfl ?_
      have W0 := HW3.out
      have O1 := HO3.out
      exact HFIN.out A3 c3 _ (by repeat (first | with_reducible exact W0 | (refine Below.setCell ?_ (by simp <;> omega) _))) (by repeat (first | with_reducible exact O1 | (refine ownsRow_setCell_below ?_ (by simp <;> omega) _)))
    · have HF := Lib.hid (show St.fits t b = false by unfold St.fits; exact decide_eq_false hf)
      go_enter Try.func22, Try.ntmps22
      go_wp2
      go_quiet ((go_at_call 27; exact Calls.quiet_of_same (most_any _)))
      go_wp2
      refine bodyPost_ret (v := .tuple #[.agg #[.slice A t.data.length c, .int .i64 t.lasts, .bool false], .int .i64 6]) (by simp [results, Try.results22, go_sem]) rfl ?_
      exact ⟨_, by unfold St.writeE; rw [HOF.out, HF.out]; rfl, andB (by repeat (first | with_reducible exact Below.refl _ _ | (refine Below.alloc ?_ (by simp <;> omega) _) | (refine Below.setCell ?_ (by simp <;> omega) _) | (refine Below.drew ?_) | (refine Below.drewN' ?_ _))) (fun hb => by rw [show St.write t b = t by unfold St.write; rw [HOF.out, HF.out]; rfl]; have := (HT.out.low hb).new w.heap.size; rw [HOF.out] at this; exact this)⟩


set_option maxHeartbeats 2000000 in
theorem refCut_any (w : World) (v : Value) (t : St.T) (keep m : Int) (N : Nat → Prop) (h : TapeV w N v t) (hl : t.lasts ≤ t.data.length ∧ t.data.length ≤ 16777216) (hkb : -9223372036854775808 ≤ keep ∧ keep ≤ 9223372036854775807) :
    Calls Try.prog 24 #[v, .int .i64 keep, .int .u8 m] w fun e w' => ∃ v', e = .returned v' ∧ TapeV w' (NewOr N w.heap.size) v' (St.cut t keep m) ∧ Below w.heap.size w w' := by
  have h' := h
  obtain ⟨A, c, rfl, hr, hc, hm, hnn⟩ := h
  obtain ⟨hl1, hl2⟩ := hl
  obtain ⟨hkb1, hkb2⟩ := hkb
  have HR := Lib.hid hr
  have HT := Lib.hid h'
  have HM := Lib.hid hm
  have HNN := Lib.hid hnn
  clear hr h' hm hnn
  cases ho : t.off with
  | true =>
    have HOF := Lib.hid ho
    clear ho
    go_enter Try.func24, Try.ntmps24
    go_wp2
    refine bodyPost_ret (v := .agg #[.slice A t.data.length c, .int .i64 t.lasts, .bool true]) (by simp [results, Try.results24, go_sem]) rfl ?_
    exact ⟨_, rfl, andB (by repeat (first | with_reducible exact Below.refl _ _ | (refine Below.alloc ?_ (by simp <;> omega) _) | (refine Below.setCell ?_ (by simp <;> omega) _) | (refine Below.drew ?_) | (refine Below.drewN' ?_ _))) (fun hb => by rw [show St.cut t keep m = t by unfold St.cut; rw [HOF.out]; rfl]; have := (HT.out.low hb).new w.heap.size; rw [HOF.out] at this; exact this)⟩
  | false =>
    have HOF := Lib.hid ho
    clear ho
    have HG2 := Lib.hid (fun (o o' : Obj) => show ((w.alloc o).alloc o').heap.size = w.heap.size + 2 by simp)
    go_enter Try.func24, Try.ntmps24
    go_wp2
    go_loop [7] (fun n => ∃ j : Nat, j ≤ t.data.length - t.lasts ∧ (j : Int) ≤ max keep 0 ∧ n = .int .i64 (t.lasts + j : Nat)) (fun n => t.data.length - (intOf n).toNat)
    case atStart => exact ⟨0, by omega, by omega, rfl⟩
    case round =>
      obtain ⟨j, hj1, hj2, rfl⟩ := hrel
      by_cases hgo : t.lasts + j < t.data.length ∧ (j : Int) < keep
      · obtain ⟨hg1, hg2⟩ := hgo
        have hg3 : ((t.lasts + j : Nat) : Int) - (t.lasts : Int) < keep := by omega
        go_wp2
        go_round
        case rel => exact ⟨j + 1, by omega, by omega, by go_num⟩
        case measure => simp [intOf]; omega
      · by_cases hn : t.lasts + j < t.data.length
        all_goals
          by_cases hk : 0 < j
        · have hk3 : ¬ (((t.lasts + j : Nat) : Int) - (t.lasts : Int) < keep) := by omega
          clear hgo
          have hlt : t.lasts + j - 1 < t.data.length := by omega
          obtain ⟨x, hx⟩ : ∃ x, t.data[t.lasts + j - 1] = x := ⟨_, rfl⟩
          have HX := Lib.hid hx
          clear hx
          have e : St.cut t keep m = ⟨((t.data.take (t.lasts + j)).set (t.lasts + j - 1) (bits .xor .u8 x m)), t.lasts + j, true⟩ := by
            have hkept : St.kept t keep = t.lasts + j := by unfold St.kept; omega
            unfold St.cut
            simp only [HOF.out, hkept, Bool.false_eq_true, if_false]
            rw [if_pos (by omega), St.xorLast_take t.data _ m x (by omega) (by omega) HX.out]
          have hlen : ((t.data.take (t.lasts + j)).set (t.lasts + j - 1) (bits .xor .u8 x m)).length = t.lasts + j := by rw [List.length_set, List.length_take]; omega
          have FIN := fun (A2 : Option Addr) (c2 : Nat) (w' : World) (hb : Below w.heap.size w w') (ho : w'.ownsRow (w.heap.size + 2) 5 1 (.slice A2 (t.lasts + j) c2) (t.lasts + j) (((t.data.take (t.lasts + j)).set (t.lasts + j - 1) (bits .xor .u8 x m)).map (.int .u8))) =>
            show ∃ v', Ending.returned (.agg #[.slice A2 (t.lasts + j) c2, .int .i64 (t.lasts + j : Nat), .bool true]) = Ending.returned v' ∧ TapeV w' (NewOr N w.heap.size) v' (St.cut t keep m) ∧ Below w.heap.size w w' from
            ⟨_, rfl, by rw [e]; exact ⟨A2, c2, by rw [hlen], Rd.of_own ho, by rw [hlen]; exact (own_cap ho).1, (own_cap ho).2, fun ad ea hd => .inr (Nat.le_trans (by omega) (own_new ho (by rw [hlen] at hd; exact hd) ad ea))⟩, hb⟩
          have HFIN := Lib.hid FIN
          clear FIN e hlen
          go_wp2_with (at_builtin; refine wpList_app (t.lasts + j) ((t.data.take (t.lasts + j)).map (.int .u8)) rfl rfl slU8 (own_lit (base := w.heap.size + 2) #[] 0 (w.heap.size + 2) (HG2.out _ _) (by omega) (by omega) rfl) rfl ((HR.out.take (t.lasts + j)).low (by repeat (first | with_reducible exact Below.refl _ _ | (refine Below.alloc ?_ (by simp <;> omega) _) | (refine Below.setCell ?_ (by simp <;> omega) _) | (refine Below.drew ?_) | (refine Below.drewN' ?_ _)))) rfl (by simp <;> omega) oneCell_ints (by unfold maxLen; omega) (by simp <;> omega) (by omega) rfl ?_; intro A2 c2 w2 hown2 hbel2 _ _; have W2 : Below w.heap.size w w2 := Below.trans (by repeat (first | with_reducible exact Below.refl _ _ | (refine Below.alloc ?_ (by simp <;> omega) _) | (refine Below.setCell ?_ (by simp <;> omega) _) | (refine Below.drew ?_) | (refine Below.drewN' ?_ _))) (hbel2.mono (by omega)); have hb1 := (((Blk.new w 37 #[.slice A t.data.length c, .int .i64 t.lasts, .bool false]).alloc (.cells #[.slice none 0 0, .int .i64 0, .bool false] 37)).alloc (.cells #[] 5)).below hbel2 (by omega); have hb2 := ((Blk.new (w.alloc (.cells #[.slice A t.data.length c, .int .i64 t.lasts, .bool false] 37)) 37 #[.slice none 0 0, .int .i64 0, .bool false]).alloc (.cells #[] 5)).below hbel2 (by simp); have x0 := hb1.cell 0; have x1 := hb1.cell 1; have x2 := hb1.cell 2; have y0 := hb2.cell 0; have y1 := hb2.cell 1; have y2 := hb2.cell 2; have z0 := hb1.frozen 0; have z1 := hb1.frozen 1; have v0 := hb2.frozen 0; have v1 := hb2.frozen 1; have v2 := hb2.frozen 2; simp at x0 x1 x2 y0 y1 y2 v0 v1 v2; obtain ⟨g0, hA2, hg0, hg1⟩ := own_addr hown2 (by omega); subst hA2; have hcx := hown2.cellAt (t.lasts + j - 1) (by omega); have hfx := hown2.frozenAt (t.lasts + j - 1); rw [List.getElem?_map, List.getElem?_take, if_pos (by omega), List.getElem?_eq_getElem (by omega), Option.map_some, HX.out] at hcx; have hgw : g0 ≠ w.heap.size := (by omega); have hgw1 : g0 ≠ w.heap.size + 1 := (by omega); have HG0 := Lib.hid hg0; clear hg0; have HO2 := Lib.hid hown2; have HW2 := Lib.hid W2; clear hb1 hb2 hown2 hbel2 W2)
          refine bodyPost_ret (v := .agg #[.slice (some ⟨g0, 0, none⟩) (t.lasts + j) c2, .int .i64 (t.lasts + j : Nat), .bool true]) (by simp [results, Try.results24, go_sem, x0, x1, x2, y0, y1, y2, v0, v1, v2, z0, z1]) rfl ?_
          have W0 := HW2.out
          have O1 := HO2.out
          have O2 := (O1.stored (t.lasts + j - 1) (.int .u8 (bits .xor .u8 x m))).1
          rw [← List.map_set] at O2
          have hg0' := HG0.out
          exact HFIN.out (some ⟨g0, 0, none⟩) c2 _ (by repeat (first | with_reducible exact W0 | (refine Below.setCell ?_ (by simp <;> omega) _))) (by repeat (first | with_reducible exact O2 | (refine ownsRow_setCell_below ?_ (by simp <;> omega) _)))
        · have hk3 : ¬ (((t.lasts + j : Nat) : Int) - (t.lasts : Int) < keep) := by omega
          clear hgo
          have hj0 := Lib.hid (show j = 0 by omega)
          have e : St.cut t keep m = ⟨(t.data.take (t.lasts + j)), t.lasts + j, true⟩ := by
            have hkept : St.kept t keep = t.lasts + j := by unfold St.kept; omega
            unfold St.cut
            simp only [HOF.out, hkept, Bool.false_eq_true, if_false]
            rw [if_neg (by omega)]
          have hlen : (t.data.take (t.lasts + j)).length = t.lasts + j := by rw [List.length_take]; omega
          have FIN := fun (A2 : Option Addr) (c2 : Nat) (w' : World) (hb : Below w.heap.size w w') (ho : w'.ownsRow (w.heap.size + 2) 5 1 (.slice A2 (t.lasts + j) c2) (t.lasts + j) ((t.data.take (t.lasts + j)).map (.int .u8))) =>
            show ∃ v', Ending.returned (.agg #[.slice A2 (t.lasts + j) c2, .int .i64 (t.lasts + j : Nat), .bool true]) = Ending.returned v' ∧ TapeV w' (NewOr N w.heap.size) v' (St.cut t keep m) ∧ Below w.heap.size w w' from
            ⟨_, rfl, by rw [e]; exact ⟨A2, c2, by rw [hlen], Rd.of_own ho, by rw [hlen]; exact (own_cap ho).1, (own_cap ho).2, fun ad ea hd => .inr (Nat.le_trans (by omega) (own_new ho (by rw [hlen] at hd; exact hd) ad ea))⟩, hb⟩
          have HFIN := Lib.hid FIN
          clear FIN e hlen
          go_wp2_with (at_builtin; refine wpList_app (t.lasts + j) ((t.data.take (t.lasts + j)).map (.int .u8)) rfl rfl slU8 (own_lit (base := w.heap.size + 2) #[] 0 (w.heap.size + 2) (HG2.out _ _) (by omega) (by omega) rfl) rfl ((HR.out.take (t.lasts + j)).low (by repeat (first | with_reducible exact Below.refl _ _ | (refine Below.alloc ?_ (by simp <;> omega) _) | (refine Below.setCell ?_ (by simp <;> omega) _) | (refine Below.drew ?_) | (refine Below.drewN' ?_ _)))) rfl (by simp <;> omega) oneCell_ints (by unfold maxLen; omega) (by simp <;> omega) (by omega) rfl ?_; intro A2 c2 w2 hown2 hbel2 _ _; have W2 : Below w.heap.size w w2 := Below.trans (by repeat (first | with_reducible exact Below.refl _ _ | (refine Below.alloc ?_ (by simp <;> omega) _) | (refine Below.setCell ?_ (by simp <;> omega) _) | (refine Below.drew ?_) | (refine Below.drewN' ?_ _))) (hbel2.mono (by omega)); have hb1 := (((Blk.new w 37 #[.slice A t.data.length c, .int .i64 t.lasts, .bool false]).alloc (.cells #[.slice none 0 0, .int .i64 0, .bool false] 37)).alloc (.cells #[] 5)).below hbel2 (by omega); have hb2 := ((Blk.new (w.alloc (.cells #[.slice A t.data.length c, .int .i64 t.lasts, .bool false] 37)) 37 #[.slice none 0 0, .int .i64 0, .bool false]).alloc (.cells #[] 5)).below hbel2 (by simp); have x0 := hb1.cell 0; have x1 := hb1.cell 1; have x2 := hb1.cell 2; have y0 := hb2.cell 0; have y1 := hb2.cell 1; have y2 := hb2.cell 2; have z0 := hb1.frozen 0; have z1 := hb1.frozen 1; have v0 := hb2.frozen 0; have v1 := hb2.frozen 1; have v2 := hb2.frozen 2; simp at x0 x1 x2 y0 y1 y2 v0 v1 v2; have HO2 := Lib.hid hown2; have HW2 := Lib.hid W2; clear hb1 hb2 hown2 hbel2 W2)
          refine bodyPost_ret (v := .agg #[.slice A2 (t.lasts + j) c2, .int .i64 (t.lasts + j : Nat), .bool true]) (by simp [results, Try.results24, go_sem, x0, x1, x2, y0, y1, y2, v0, v1, v2, z0, z1]) rfl ?_
          have W0 := HW2.out
          have O1 := HO2.out
          exact HFIN.out A2 c2 _ (by repeat (first | with_reducible exact W0 | (refine Below.setCell ?_ (by simp <;> omega) _))) (by repeat (first | with_reducible exact O1 | (refine ownsRow_setCell_below ?_ (by simp <;> omega) _)))
        · clear hgo
          have hlt : t.lasts + j - 1 < t.data.length := by omega
          obtain ⟨x, hx⟩ : ∃ x, t.data[t.lasts + j - 1] = x := ⟨_, rfl⟩
          have HX := Lib.hid hx
          clear hx
          have e : St.cut t keep m = ⟨((t.data.take (t.lasts + j)).set (t.lasts + j - 1) (bits .xor .u8 x m)), t.lasts + j, true⟩ := by
            have hkept : St.kept t keep = t.lasts + j := by unfold St.kept; omega
            unfold St.cut
            simp only [HOF.out, hkept, Bool.false_eq_true, if_false]
            rw [if_pos (by omega), St.xorLast_take t.data _ m x (by omega) (by omega) HX.out]
          have hlen : ((t.data.take (t.lasts + j)).set (t.lasts + j - 1) (bits .xor .u8 x m)).length = t.lasts + j := by rw [List.length_set, List.length_take]; omega
          have FIN := fun (A2 : Option Addr) (c2 : Nat) (w' : World) (hb : Below w.heap.size w w') (ho : w'.ownsRow (w.heap.size + 2) 5 1 (.slice A2 (t.lasts + j) c2) (t.lasts + j) (((t.data.take (t.lasts + j)).set (t.lasts + j - 1) (bits .xor .u8 x m)).map (.int .u8))) =>
            show ∃ v', Ending.returned (.agg #[.slice A2 (t.lasts + j) c2, .int .i64 (t.lasts + j : Nat), .bool true]) = Ending.returned v' ∧ TapeV w' (NewOr N w.heap.size) v' (St.cut t keep m) ∧ Below w.heap.size w w' from
            ⟨_, rfl, by rw [e]; exact ⟨A2, c2, by rw [hlen], Rd.of_own ho, by rw [hlen]; exact (own_cap ho).1, (own_cap ho).2, fun ad ea hd => .inr (Nat.le_trans (by omega) (own_new ho (by rw [hlen] at hd; exact hd) ad ea))⟩, hb⟩
          have HFIN := Lib.hid FIN
          clear FIN e hlen
          go_wp2_with (at_builtin; refine wpList_app (t.lasts + j) ((t.data.take (t.lasts + j)).map (.int .u8)) rfl rfl slU8 (own_lit (base := w.heap.size + 2) #[] 0 (w.heap.size + 2) (HG2.out _ _) (by omega) (by omega) rfl) rfl ((HR.out.take (t.lasts + j)).low (by repeat (first | with_reducible exact Below.refl _ _ | (refine Below.alloc ?_ (by simp <;> omega) _) | (refine Below.setCell ?_ (by simp <;> omega) _) | (refine Below.drew ?_) | (refine Below.drewN' ?_ _)))) rfl (by simp <;> omega) oneCell_ints (by unfold maxLen; omega) (by simp <;> omega) (by omega) rfl ?_; intro A2 c2 w2 hown2 hbel2 _ _; have W2 : Below w.heap.size w w2 := Below.trans (by repeat (first | with_reducible exact Below.refl _ _ | (refine Below.alloc ?_ (by simp <;> omega) _) | (refine Below.setCell ?_ (by simp <;> omega) _) | (refine Below.drew ?_) | (refine Below.drewN' ?_ _))) (hbel2.mono (by omega)); have hb1 := (((Blk.new w 37 #[.slice A t.data.length c, .int .i64 t.lasts, .bool false]).alloc (.cells #[.slice none 0 0, .int .i64 0, .bool false] 37)).alloc (.cells #[] 5)).below hbel2 (by omega); have hb2 := ((Blk.new (w.alloc (.cells #[.slice A t.data.length c, .int .i64 t.lasts, .bool false] 37)) 37 #[.slice none 0 0, .int .i64 0, .bool false]).alloc (.cells #[] 5)).below hbel2 (by simp); have x0 := hb1.cell 0; have x1 := hb1.cell 1; have x2 := hb1.cell 2; have y0 := hb2.cell 0; have y1 := hb2.cell 1; have y2 := hb2.cell 2; have z0 := hb1.frozen 0; have z1 := hb1.frozen 1; have v0 := hb2.frozen 0; have v1 := hb2.frozen 1; have v2 := hb2.frozen 2; simp at x0 x1 x2 y0 y1 y2 v0 v1 v2; obtain ⟨g0, hA2, hg0, hg1⟩ := own_addr hown2 (by omega); subst hA2; have hcx := hown2.cellAt (t.lasts + j - 1) (by omega); have hfx := hown2.frozenAt (t.lasts + j - 1); rw [List.getElem?_map, List.getElem?_take, if_pos (by omega), List.getElem?_eq_getElem (by omega), Option.map_some, HX.out] at hcx; have hgw : g0 ≠ w.heap.size := (by omega); have hgw1 : g0 ≠ w.heap.size + 1 := (by omega); have HG0 := Lib.hid hg0; clear hg0; have HO2 := Lib.hid hown2; have HW2 := Lib.hid W2; clear hb1 hb2 hown2 hbel2 W2)
          refine bodyPost_ret (v := .agg #[.slice (some ⟨g0, 0, none⟩) (t.lasts + j) c2, .int .i64 (t.lasts + j : Nat), .bool true]) (by simp [results, Try.results24, go_sem, x0, x1, x2, y0, y1, y2, v0, v1, v2, z0, z1]) rfl ?_
          have W0 := HW2.out
          have O1 := HO2.out
          have O2 := (O1.stored (t.lasts + j - 1) (.int .u8 (bits .xor .u8 x m))).1
          rw [← List.map_set] at O2
          have hg0' := HG0.out
          exact HFIN.out (some ⟨g0, 0, none⟩) c2 _ (by repeat (first | with_reducible exact W0 | (refine Below.setCell ?_ (by simp <;> omega) _))) (by repeat (first | with_reducible exact O2 | (refine ownsRow_setCell_below ?_ (by simp <;> omega) _)))
        · clear hgo
          have hj0 := Lib.hid (show j = 0 by omega)
          have e : St.cut t keep m = ⟨(t.data.take (t.lasts + j)), t.lasts + j, true⟩ := by
            have hkept : St.kept t keep = t.lasts + j := by unfold St.kept; omega
            unfold St.cut
            simp only [HOF.out, hkept, Bool.false_eq_true, if_false]
            rw [if_neg (by omega)]
          have hlen : (t.data.take (t.lasts + j)).length = t.lasts + j := by rw [List.length_take]; omega
          have FIN := fun (A2 : Option Addr) (c2 : Nat) (w' : World) (hb : Below w.heap.size w w') (ho : w'.ownsRow (w.heap.size + 2) 5 1 (.slice A2 (t.lasts + j) c2) (t.lasts + j) ((t.data.take (t.lasts + j)).map (.int .u8))) =>
            show ∃ v', Ending.returned (.agg #[.slice A2 (t.lasts + j) c2, .int .i64 (t.lasts + j : Nat), .bool true]) = Ending.returned v' ∧ TapeV w' (NewOr N w.heap.size) v' (St.cut t keep m) ∧ Below w.heap.size w w' from
            ⟨_, rfl, by rw [e]; exact ⟨A2, c2, by rw [hlen], Rd.of_own ho, by rw [hlen]; exact (own_cap ho).1, (own_cap ho).2, fun ad ea hd => .inr (Nat.le_trans (by omega) (own_new ho (by rw [hlen] at hd; exact hd) ad ea))⟩, hb⟩
          have HFIN := Lib.hid FIN
          clear FIN e hlen
          go_wp2_with (at_builtin; refine wpList_app (t.lasts + j) ((t.data.take (t.lasts + j)).map (.int .u8)) rfl rfl slU8 (own_lit (base := w.heap.size + 2) #[] 0 (w.heap.size + 2) (HG2.out _ _) (by omega) (by omega) rfl) rfl ((HR.out.take (t.lasts + j)).low (by repeat (first | with_reducible exact Below.refl _ _ | (refine Below.alloc ?_ (by simp <;> omega) _) | (refine Below.setCell ?_ (by simp <;> omega) _) | (refine Below.drew ?_) | (refine Below.drewN' ?_ _)))) rfl (by simp <;> omega) oneCell_ints (by unfold maxLen; omega) (by simp <;> omega) (by omega) rfl ?_; intro A2 c2 w2 hown2 hbel2 _ _; have W2 : Below w.heap.size w w2 := Below.trans (by repeat (first | with_reducible exact Below.refl _ _ | (refine Below.alloc ?_ (by simp <;> omega) _) | (refine Below.setCell ?_ (by simp <;> omega) _) | (refine Below.drew ?_) | (refine Below.drewN' ?_ _))) (hbel2.mono (by omega)); have hb1 := (((Blk.new w 37 #[.slice A t.data.length c, .int .i64 t.lasts, .bool false]).alloc (.cells #[.slice none 0 0, .int .i64 0, .bool false] 37)).alloc (.cells #[] 5)).below hbel2 (by omega); have hb2 := ((Blk.new (w.alloc (.cells #[.slice A t.data.length c, .int .i64 t.lasts, .bool false] 37)) 37 #[.slice none 0 0, .int .i64 0, .bool false]).alloc (.cells #[] 5)).below hbel2 (by simp); have x0 := hb1.cell 0; have x1 := hb1.cell 1; have x2 := hb1.cell 2; have y0 := hb2.cell 0; have y1 := hb2.cell 1; have y2 := hb2.cell 2; have z0 := hb1.frozen 0; have z1 := hb1.frozen 1; have v0 := hb2.frozen 0; have v1 := hb2.frozen 1; have v2 := hb2.frozen 2; simp at x0 x1 x2 y0 y1 y2 v0 v1 v2; have HO2 := Lib.hid hown2; have HW2 := Lib.hid W2; clear hb1 hb2 hown2 hbel2 W2)
          refine bodyPost_ret (v := .agg #[.slice A2 (t.lasts + j) c2, .int .i64 (t.lasts + j : Nat), .bool true]) (by simp [results, Try.results24, go_sem, x0, x1, x2, y0, y1, y2, v0, v1, v2, z0, z1]) rfl ?_
          have W0 := HW2.out
          have O1 := HO2.out
          exact HFIN.out A2 c2 _ (by repeat (first | with_reducible exact W0 | (refine Below.setCell ?_ (by simp <;> omega) _))) (by repeat (first | with_reducible exact O1 | (refine ownsRow_setCell_below ?_ (by simp <;> omega) _)))

end Go.Proofs.Ytmabbdkckdpeoaa
