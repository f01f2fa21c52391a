/- Layer 19: StorageMatchesModel walked. -/
import Derived.Test.YtmabbdkckdpeoaaStLaws
namespace Go.Proofs.Ytmabbdkckdpeoaa
set_option linter.unusedSimpArgs false
set_option linter.unusedVariables false
open Go.RowKit

theorem tape_ne {w : World} {N : Nat → Prop} {v : Value} {t : St.T} {bx : Nat} {ty : TypeId} {A : Option Addr} {n c : Nat} {i : Int} {b : Bool} (h : TapeV w N v t) (hb : Blk w bx ty #[.slice A n c, .int .i64 i, .bool b]) : TapeV w (fun k => N k ∧ k ≠ bx) v t := by
  obtain ⟨A', c', rfl, hr, hl, hm, ha⟩ := h
  refine ⟨A', c', rfl, hr, hl, hm, fun ad e h0 => ⟨ha ad e h0, ?_⟩⟩
  obtain ⟨ad', hA, hcell⟩ := hr 0 ((t.data.map (Value.int .u8))[0]'(by simpa using h0)) (by simp [h0])
  rw [e] at hA; injection hA with hA; subst hA
  intro hbx
  rw [show ad.add 0 = ad from rfl] at hcell
  obtain ⟨bl, off, sp⟩ := ad
  have hsp := World.cell?_spot hcell
  simp at hsp hbx
  subst hsp hbx
  rw [hb.cell off] at hcell
  match off, hcell with
  | 0, h => simp at h
  | 1, h => simp at h
  | 2, h => simp at h
  | _ + 3, h => simp at h

theorem FileAt.blk_out {w : World} {B p bx : Nat} {g : Option Nat} {t : St.T} {cs : Array Value} (h : FileAt w B p g t) (hx : Blk w bx 37 cs) : ¬ Fp p g bx := by
  obtain ⟨_, A, c, hb, ho, hg⟩ := h
  rintro (e | e)
  · exact (Blk.ne_ hx hb (by decide)) e
  · exact (own_ne ho hx (by decide)) (by rw [hg, e])

set_option maxRecDepth 100000 in
set_option maxHeartbeats 1000000 in
theorem matches_walk (A : Option Addr) (l : List St.Act) (c : Nat) (w : World) (h : Acts w A l) (hl : l.length ≤ maxLen) (hbig : ∀ a ∈ l, a.b.length ≤ 140737488355328) :
    Calls Try.prog 5 #[.slice A l.length c] w fun e w' => e = .returned (.bool true) ∧ Below w.heap.size w w' := by
  have HA := Lib.hid h
  have HL := Lib.hid hl
  have HBIG := Lib.hid hbig
  unfold maxLen at hl
  clear h hbig
  by_cases hs : tot l ≤ 3000
  · have HS := Lib.hid (decide_eq_true hs)
    clear hs
    go_enter Try.func5, Try.ntmps5
    go_wp2_with fail
    refine (wakes_any _).mono ?_
    rintro e w1 ⟨rfl, hb1⟩
    have HB1 := Lib.hid hb1
    clear hb1
    go_wp2_with fail
    refine (small_any _ A l c (HA.out.low HB1.out) HL.out HBIG.out).mono ?_
    rw [HS.out]
    rintro e w2 ⟨rfl, hb2⟩
    have HB2 := Lib.hid (HB1.out.trans (hb2.mono HB1.out.size))
    clear hb2
    go_wp2_with fail
    refine (new_any _).mono ?_
    rintro e w3 ⟨rfl, hf3, hb3⟩
    have HF3 := Lib.hid hf3
    have HB3 := Lib.hid (HB2.out.trans (hb3.mono HB2.out.size))
    have hsz3 : w2.heap.size < w3.heap.size := hf3.lt.1
    have HZ2 := Lib.hid HB2.out.size
    clear hf3 hb3
    go_wp2_with fail
    obtain ⟨bx, hbx⟩ : ∃ bx, w3.heap.size = bx := ⟨_, rfl⟩
    have hx0 : Blk (w3.alloc (.cells #[.slice none 0 0, .int .i64 0, .bool false] 37)) bx 37 #[.slice none 0 0, .int .i64 0, .bool false] := by rw [← hbx]; exact Blk.new _ _ _
    rw [hbx]
    have HX0 := Lib.hid hx0
    have HBX := Lib.hid hbx
    clear hx0 hbx hsz3
    go_loopw [6, 7, 8, 17] (fun _ _ _ i wr => ∃ (k : Nat) (g : Option Nat) (A1 : Option Addr) (c1 : Nat), k ≤ l.length ∧ i = .int .i64 k ∧ FileAt wr w2.heap.size w2.heap.size g (St.run (l.take k)) ∧
        Blk wr bx 37 #[.slice A1 (St.run (l.take k)).data.length c1, .int .i64 (St.run (l.take k)).lasts, .bool (St.run (l.take k)).off] ∧
        TapeV wr (fun k => ¬ Fp w2.heap.size g k) (.agg #[.slice A1 (St.run (l.take k)).data.length c1, .int .i64 (St.run (l.take k)).lasts, .bool (St.run (l.take k)).off]) (St.run (l.take k)) ∧ Below w.heap.size w wr) (fun _ _ _ i _ => l.length - (intOf i).toNat)
    case atStart => exact ⟨0, none, none, 0, Nat.zero_le _, rfl, HF3.out.low ((Below.refl _ _).alloc (Nat.le_refl _) _), HX0.out, tape0 _ _, HB3.out.alloc HB3.out.size _⟩
    case round =>
      obtain ⟨k, g, A1, c1, hk, rfl, hf, hx, htv, hb⟩ := hrel
      have HF := Lib.hid hf
      have HX := Lib.hid hx
      have HTV := Lib.hid htv
      have HB := Lib.hid hb
      have x0 := hx.cell 0
      have x1 := hx.cell 1
      have x2 := hx.cell 2
      simp at x0 x1 x2
      have hxl := hx.lt
      have HFP := Lib.hid (hf.blk_out hx)
      clear hf hx htv hb
      by_cases hlt : k < l.length
      · obtain ⟨ad, b, o, A', c', hA, hadd, h0, h1, h2, h3, hv⟩ := (HA.out.low HB.out) k hlt
        subst hA
        have HV := Lib.hid hv
        have HR := Lib.hid (St.run_take hlt)
        have HBA := Lib.hid ((Below.refl wr.heap.size wr).alloc (Nat.le_refl _) (.cells #[.int .u8 l[k].kind, .slice A' l[k].b.length c', .int .i64 l[k].n, .int .u8 l[k].m] 39))
        clear hv
        go_wp2_with fail
        refine (do_any _ w2.heap.size w2.heap.size g (St.run (l.take k)) (St.run (l.take k)) _ _ l[k] (HF.out.low HBA.out) (St.run_ok _) (HTV.out.low HBA.out) (St.run_ok _) (HV.out.low HBA.out)).mono ?_
        rw [← HR.out, beq_self_eq_true]
        rintro e w4 ⟨v', rfl, g4, hf4, htv4, hc4, _⟩
        have hx4 := (HX.out.low HBA.out).chg hc4 HFP.out
        have HB4 := Lib.hid ((HB.out.trans (HBA.out.mono HB.out.size)).trans (hc4.below (fun k hk => Nat.le_trans HZ2.out (HF.out.base k hk)) (Nat.le_trans HB.out.size HBA.out.size)))
        have htv4' := tape_ne htv4 hx4
        obtain ⟨A4, c4, rfl, hr4, hc4', hm4, hn4⟩ := htv4
        have y0 := hx4.cell 0
        have y1 := hx4.cell 1
        have y2 := hx4.cell 2
        have z0 := hx4.frozen 0
        have z1 := hx4.frozen 1
        have z2 := hx4.frozen 2
        simp at y0 y1 y2
        have hxl4 := hx4.lt
        have HF4 := Lib.hid hf4
        have HX4 := Lib.hid hx4
        have HTV4 := Lib.hid htv4'
        clear hf4 hx4 htv4' hc4 hr4 hc4' hm4 hn4
        go_wp2_with fail
        have hc5 := set3_chg w4 bx (.slice A4 (St.run (l.take (k + 1))).data.length c4) (.int .i64 (St.run (l.take (k + 1))).lasts) (.bool (St.run (l.take (k + 1))).off)
        obtain ⟨w5, hw5⟩ : ∃ w5, (((w4.setCell ⟨bx, 0, none⟩ (.slice A4 (St.run (l.take (k + 1))).data.length c4)).setCell ⟨bx, 1, none⟩ (.int .i64 (St.run (l.take (k + 1))).lasts)).setCell ⟨bx, 2, none⟩ (.bool (St.run (l.take (k + 1))).off)) = w5 := ⟨_, rfl⟩
        have hx5 := ((HX4.out.set_ 0 (.slice A4 (St.run (l.take (k + 1))).data.length c4)).set_ 1 (.int .i64 (St.run (l.take (k + 1))).lasts)).set_ 2 (.bool (St.run (l.take (k + 1))).off)
        rw [hw5] at hc5 hx5
        rw [hw5]
        have hal : Below w5.heap.size w5 (w5.alloc (.cells #[.slice A4 (St.run (l.take (k + 1))).data.length c4, .int .i64 (St.run (l.take (k + 1))).lasts, .bool (St.run (l.take (k + 1))).off] 37)) := (Below.refl _ _).alloc (Nat.le_refl _) _
        have hno := HF4.out.blk_out HX4.out
        have hb5 := HB4.out.trans (hc5.below (fun k e => by rw [e, ← HBX.out]; exact HB3.out.size) HB4.out.size)
        have HF5 := Lib.hid ((HF4.out.chg hc5 (fun k e => by rw [e]; exact hno)).low hal)
        have HTV5 := Lib.hid ((HTV4.out.chg hc5 (fun k h e => h.2 e)).low hal)
        have HX5 := Lib.hid (hx5.low hal)
        have HB5 := Lib.hid (hb5.trans (hal.mono hb5.size))
        clear hal hc5 hno hb5 hx5 hw5
        refine (same_any _ w2.heap.size w2.heap.size g4 (St.run (l.take (k + 1))) _ _ HF5.out (St.run_ok _).2 HTV5.out).mono ?_
        rintro e w6 ⟨rfl, hb6⟩
        have HB6 := Lib.hid hb6
        clear hb6
        go_wp2
        go_roundw
        case rel => exact ⟨k + 1, g4, A4, c4, by omega, by go_num, HF5.out.low HB6.out, HX5.out.low HB6.out, (HTV5.out.to (fun k h => h.1)).low HB6.out, HB5.out.trans (HB6.out.mono HB5.out.size)⟩
        case measure => simp [intOf]; omega
      · go_wp2
        go_ret
        exact ⟨rfl, HB.out⟩
  · have HS := Lib.hid (decide_eq_false hs)
    clear hs
    go_enter Try.func5, Try.ntmps5
    go_wp2_with fail
    refine (wakes_any _).mono ?_
    rintro e w1 ⟨rfl, hb1⟩
    have HB1 := Lib.hid hb1
    clear hb1
    go_wp2_with fail
    refine (small_any _ A l c (HA.out.low HB1.out) HL.out HBIG.out).mono ?_
    rw [HS.out]
    rintro e w2 ⟨rfl, hb2⟩
    have HB2 := Lib.hid (HB1.out.trans (hb2.mono HB1.out.size))
    clear hb2
    go_wp2
    go_ret
    exact ⟨rfl, HB2.out⟩

end Go.Proofs.Ytmabbdkckdpeoaa
