/- Layer 19: StorageSyncedData walked. -/
import Derived.Test.YtmabbdkckdpeoaaStLaw2
namespace Go.Proofs.Ytmabbdkckdpeoaa
set_option linter.unusedSimpArgs false
set_option linter.unusedVariables false
open Go.RowKit

/-- a file at work, and bytes that lie apart from it -/
structure Live (W wr : World) (B p : Nat) (g : Option Nat) (t : St.T) (A : Option Addr) (D : List Int) : Prop where
  file : FileAt wr B p g t
  rd : Rd wr A (D.map (.int .u8))
  sep : ∀ k, A.map (·.block) = some k → 0 < D.length → ¬ Fp p g k ∧ k < wr.heap.size
  bel : Below W.heap.size W wr
  base : W.heap.size ≤ B
theorem Live.step {W wr w' : World} {B p : Nat} {g : Option Nat} {t t' : St.T} {A : Option Addr} {D : List Int} (h : Live W wr B p g t A D) (hto : FileTo wr w' B p g t') : ∃ g', Live W w' B p g' t' A D := by
  obtain ⟨g', hf, hc, hd⟩ := hto
  refine ⟨g', hf, ?_, fun k hk h0 => ⟨?_, Nat.lt_of_lt_of_le (h.sep k hk h0).2 hc.size⟩, h.bel.trans (hc.below (fun k hk => Nat.le_trans h.base (h.file.base k hk)) h.bel.size), h.base⟩
  · by_cases h0 : 0 < D.length
    · exact h.rd.chg hc (fun ad e => (h.sep ad.block (by rw [e]; rfl) h0).1)
    · have : D = [] := List.eq_nil_of_length_eq_zero (by omega)
      rw [this]; exact Rd.nil _ _
  · have := h.sep k hk h0
    rcases hd with e | ⟨k', e, hk'⟩
    · rw [e]; exact this.1
    · rintro (h1 | h1)
      · exact this.1 (.inl h1)
      · rw [e] at h1; injection h1 with h1; omega
theorem Live.low {W wr w' : World} {B p : Nat} {g : Option Nat} {t : St.T} {A : Option Addr} {D : List Int} (h : Live W wr B p g t A D) (hb : Below wr.heap.size wr w') : Live W w' B p g t A D :=
  ⟨h.file.low hb, h.rd.low hb, fun k hk h0 => ⟨(h.sep k hk h0).1, Nat.lt_of_lt_of_le (h.sep k hk h0).2 hb.size⟩, h.bel.trans (hb.mono h.bel.size), h.base⟩

namespace St
theorem cut_synced (t : T) (keep m : Int) (h : t.lasts = t.data.length) (ho : t.off = false) : cut t keep m = { t with off := true } := by
  have hk : kept t keep = t.data.length := by unfold kept; omega
  unfold cut
  simp only [ho, Bool.false_eq_true, if_false]
  rw [hk, if_neg (by omega), List.take_length, ← h]
theorem cut_off (t : T) (keep m : Int) (ho : t.off = true) : cut t keep m = t := by unfold cut; rw [ho]; rfl
theorem on_back (t : T) (ho : t.off = false) : on { t with off := true } = t := by cases t; simp_all [on]
end St

set_option maxRecDepth 100000 in
set_option maxHeartbeats 1000000 in
theorem synced_walk (A : Option Addr) (l : List St.Act) (c : Nat) (KA : Option Addr) (ks : List Int) (kc : Nat) (m : Int) (w : World) (h : Acts w A l) (hl : l.length ≤ maxLen) (hbig : ∀ a ∈ l, a.b.length ≤ 140737488355328) (hks : Rd w KA (ks.map (.int .i64))) (hkl : ks.length ≤ maxLen) (hkb : ∀ k ∈ ks, -9223372036854775808 ≤ k ∧ k ≤ 9223372036854775807) :
    Calls Try.prog 7 #[.slice A l.length c, .slice KA ks.length kc, .int .u8 m] w fun e w' => e = .returned (.bool true) ∧ Below w.heap.size w w' := by
  have HA := Lib.hid h
  have HL := Lib.hid hl
  have HBIG := Lib.hid hbig
  unfold maxLen at hl
  clear h hbig
  have HKS := Lib.hid hks
  have HKB := Lib.hid hkb
  unfold maxLen at hkl
  clear hks hkb
  by_cases hs : tot l ≤ 3000
  · have HS := Lib.hid (decide_eq_true hs)
    clear hs
    by_cases hk20 : ks.length ≤ 20
    · skip
      go_enter Try.func7, Try.ntmps7
      go_wp2_with fail
      refine (wakes_any _).mono ?_
      rintro e w1 ⟨rfl, hb1⟩
      have HB1 := Lib.hid hb1
      clear hb1
      go_wp2_with fail
      refine (small_any _ A l c (HA.out.low HB1.out) HL.out HBIG.out).mono ?_
      rw [HS.out]
      rintro e w2 ⟨rfl, hb2⟩
      have HB2 := Lib.hid (HB1.out.trans (hb2.mono HB1.out.size))
      clear hb2
      go_wp2_with fail
      refine (play_any _ A l c (HA.out.low HB2.out) HL.out).mono ?_
      rintro e w3 ⟨p, g, A3, c3, rfl, hf3, ⟨base, hp3, hg3, hbs3, hown3⟩, hb3⟩
      obtain ⟨T, hT⟩ : ∃ T, St.on (St.run l) = T := ⟨_, rfl⟩
      have hTd : (St.run l).data = T.data := by rw [← hT]; rfl
      have hTl : (St.run l).lasts = T.lasts := by rw [← hT]; rfl
      have hTo : T.off = false := by rw [← hT]; rfl
      have hok := St.run_ok l
      rw [hTd, hTl] at hok
      rw [hTd] at hown3
      rw [hT] at hf3
      rw [hTd, hTl]
      have hlv : Live w w3 w2.heap.size p g T A3 T.data := by
        refine ⟨hf3, Rd.of_own hown3, fun k hk h0 => ?_, HB2.out.trans (hb3.mono HB2.out.size), HB2.out.size⟩
        obtain ⟨ad, rfl⟩ : ∃ ad, A3 = some ad := by cases A3 with | none => cases hk | some ad => exact ⟨ad, rfl⟩
        have hn := own_new hown3 h0 ad rfl
        have hk' : ad.block = k := by injection hk
        refine ⟨?_, (hown3.lt k (by rw [ownBlock_slice]; exact hk)).2⟩
        rintro (e | e)
        · omega
        · have := hg3 k e.symm; omega
      have hcap3 := (own_cap hown3).1
      have HLV := Lib.hid hlv
      have HTO := Lib.hid hTo
      have HOK := Lib.hid hok
      have hok1 := hok.1
      have hok2 := hok.2
      clear hT hTd hTl hTo hok hf3 hown3 hb3 hp3 hg3 hbs3 hlv
      obtain ⟨T2, hT2⟩ : ∃ T2, St.sync T = T2 := ⟨_, rfl⟩
      have hE : St.syncE T = 0 := by unfold St.syncE; rw [HTO.out]; rfl
      have hd2 : T2.data = T.data := by rw [← hT2]; unfold St.sync; rw [HTO.out]; rfl
      have hl2 : T2.lasts = T2.data.length := by rw [← hT2]; unfold St.sync; rw [HTO.out]; rfl
      have ho2 : T2.off = false := by rw [← hT2]; unfold St.sync; rw [HTO.out]; rfl
      have HT2 := Lib.hid hT2
      have HE := Lib.hid hE
      have HD2 := Lib.hid hd2
      have HL2 := Lib.hid hl2
      have HO2 := Lib.hid ho2
      have HOK2 := Lib.hid (show T2.lasts ≤ T2.data.length ∧ T2.data.length ≤ 16777216 by rw [hl2, hd2]; exact ⟨Nat.le_refl _, hok2⟩)
      clear hT2 hE hd2 hl2 ho2
      go_wp2_with fail
      refine (sync_any _ _ _ _ _ HLV.out.file HOK.out.2).mono ?_
      rw [HT2.out, HE.out]
      rintro e w4 ⟨rfl, hto⟩
      obtain ⟨gw4, hlw4⟩ := HLV.out.step hto
      have HLV4 := Lib.hid hlw4
      clear hto hlw4
      go_wp2_with fail
      go_loopw [11, 35] (fun _ i wr => ∃ (k : Nat) (gk : Option Nat), k ≤ ks.length ∧ i = .int .i64 k ∧ Live w wr w2.heap.size p gk T2 A3 T.data) (fun _ i _ => ks.length - (intOf i).toNat)
      case atStart => exact ⟨0, gw4, Nat.zero_le _, rfl, HLV4.out⟩
      case round =>
        obtain ⟨k, gk, hk, rfl, hlv⟩ := hrel
        have HLK := Lib.hid hlv
        clear hlv
        by_cases hlt : k < ks.length
        · obtain ⟨ad, hA, hc⟩ := (HKS.out.low HLK.out.bel) k (.int .i64 ks[k]) (by simp [hlt])
          subst hA
          have hkb := Lib.hid (HKB.out ks[k] (List.getElem_mem hlt))
          go_wp2_with fail
          refine (powerFail_any _ _ _ _ _ ks[k] m HLK.out.file HOK2.out hkb.out).mono ?_
          rw [St.cut_synced _ _ _ HL2.out HO2.out]
          rintro e w5 ⟨rfl, hto⟩
          obtain ⟨gw5, hlw5⟩ := HLK.out.step hto
          have HL5 := Lib.hid hlw5
          clear hto hlw5
          go_wp2_with fail
          refine (powerFail_any _ _ _ _ _ ks[k] m HL5.out.file HOK2.out hkb.out).mono ?_
          rw [St.cut_off _ _ _ rfl]
          rintro e w6 ⟨rfl, hto⟩
          obtain ⟨gw6, hlw6⟩ := HL5.out.step hto
          have HL6 := Lib.hid hlw6
          clear hto hlw6
          go_wp2_with fail
          refine (powerOn_any _ _ _ _ _ HL6.out.file).mono ?_
          rw [St.on_back _ HO2.out]
          rintro e w7 ⟨rfl, hto⟩
          obtain ⟨gw7, hlw7⟩ := HL6.out.step hto
          have HL7 := Lib.hid hlw7
          clear hto hlw7
          go_wp2
          go_roundw
          case rel => exact ⟨k + 1, gw7, by omega, by go_num, HL7.out⟩
          case measure => simp [intOf]; omega
        · go_wp2_with fail
          refine (bytes_any _ _ _ _ _ HLK.out.file HOK2.out.2 HO2.out).mono ?_
          rw [HD2.out]
          rintro e w8 ⟨A8, c8, rfl, hown8, hb8⟩
          have HL8 := Lib.hid (HLK.out.low hb8)
          have s1 := strU8 w8 A8 T.data _ c8 (Rd.of_own hown8) rfl
          have s2 := strU8 w8 A3 T.data _ c3 HL8.out.rd rfl
          clear hown8 hb8
          go_wp2
          go_ret
          exact ⟨ret_bool (by simp), HL8.out.bel⟩
    · skip
      go_enter Try.func7, Try.ntmps7
      go_wp2_with fail
      refine (wakes_any _).mono ?_
      rintro e w1 ⟨rfl, hb1⟩
      have HB1 := Lib.hid hb1
      clear hb1
      go_wp2_with fail
      refine (small_any _ A l c (HA.out.low HB1.out) HL.out HBIG.out).mono ?_
      rw [HS.out]
      rintro e w2 ⟨rfl, hb2⟩
      have HB2 := Lib.hid (HB1.out.trans (hb2.mono HB1.out.size))
      clear hb2
      go_wp2
      go_ret
      exact ⟨rfl, HB2.out⟩
  · have HS := Lib.hid (decide_eq_false hs)
    clear hs
    go_enter Try.func7, Try.ntmps7
    go_wp2_with fail
    refine (wakes_any _).mono ?_
    rintro e w1 ⟨rfl, hb1⟩
    have HB1 := Lib.hid hb1
    clear hb1
    go_wp2_with fail
    refine (small_any _ A l c (HA.out.low HB1.out) HL.out HBIG.out).mono ?_
    rw [HS.out]
    rintro e w2 ⟨rfl, hb2⟩
    have HB2 := Lib.hid (HB1.out.trans (hb2.mono HB1.out.size))
    clear hb2
    go_wp2
    go_ret
    exact ⟨rfl, HB2.out⟩


end Go.Proofs.Ytmabbdkckdpeoaa
