/- Package storage: the file as plain data, and the walks of its methods. -/
import Derived.Test.YtgpdodhegacndaaProg
import Derived.Test.YtgpdodhegacndaaLib
import Derived.Test.YtgpdodhegacndaaSl
import Derived.RegionTactic
import Derived.BigRegion
import Derived.Deep.QuietTactic
import Derived.BigQuiet
import Derived.StillTailTactics
import Derived.Deep.DeepCutAuto
import Derived.Laws.ResultCell
namespace Go.Proofs.Ytgpdodhegacndaa
set_option linter.unusedSimpArgs false
set_option linter.unusedVariables false
open Go.RowKit


/-- a file: its bytes, how many are durable, is the power off -/
structure St.T where
  data : List Int
  lasts : Nat
  off : Bool
namespace St
def T.ok (t : T) : Prop := t.lasts ≤ t.data.length ∧ t.data.length ≤ 16777216 ∧ ∀ x ∈ t.data, 0 ≤ x ∧ x < 256
def fits (t : T) (b : List Int) : Bool := decide (t.data.length + b.length ≤ 16777216)
def write (t : T) (b : List Int) : T := if t.off then t else if fits t b then { t with data := t.data ++ b } else t
def writeE (t : T) (b : List Int) : Int := if t.off then 7 else if fits t b then 0 else 6
def sync (t : T) : T := if t.off then t else { t with lasts := t.data.length }
def syncE (t : T) : Int := if t.off then 7 else 0
def kept (t : T) (keep : Int) : Nat := t.lasts + min (max keep 0).toNat (t.data.length - t.lasts)
def xorLast (l : List Int) (m : Int) : List Int := l.take (l.length - 1) ++ (l.drop (l.length - 1)).map fun x => bits .xor .u8 x m
def cut (t : T) (keep m : Int) : T := if t.off then t else
  { data := if t.lasts < kept t keep then xorLast (t.data.take (kept t keep)) m else t.data.take (kept t keep), lasts := kept t keep, off := true }
def on (t : T) : T := { t with off := false }
def short (t : T) (n : Int) : T := if 0 ≤ n ∧ n ≤ t.data.length then (if t.off then t else { t with data := t.data.take n.toNat, lasts := min t.lasts n.toNat }) else t
def shortE (t : T) (n : Int) : Int := if 0 ≤ n ∧ n ≤ t.data.length then (if t.off then 7 else 0) else 1
def new : T := ⟨[], 0, false⟩
theorem xorLast_length (l : List Int) (m : Int) : (xorLast l m).length = l.length := by simp [xorLast]
theorem xorLast_take (l : List Int) (n : Nat) (m x : Int) (hn : 0 < n) (hl : n ≤ l.length) (hx : l[n - 1]'(by omega) = x) : xorLast (l.take n) m = (l.take n).set (n - 1) (bits .xor .u8 x m) := by
  have e : (l.take n).length = n := by rw [List.length_take]; omega
  unfold xorLast
  rw [e, List.set_eq_take_append_cons_drop, if_pos (by omega)]
  congr 1
  rw [List.drop_eq_getElem_cons (by omega), show n - 1 + 1 = n by omega, List.drop_of_length_le (by omega)]
  simp [hx]
end St

/-- a *storage.File at block p, its bytes in block g (none: no bytes yet) -/
def FileAt (w : World) (B p : Nat) (g : Option Nat) (t : St.T) : Prop :=
  B ≤ p ∧ ∃ A c, Blk w p 75 #[.slice A t.data.length c, .int .i64 t.lasts, .bool t.off] ∧
    w.ownsRow B 5 1 (.slice A t.data.length c) t.data.length (t.data.map (.int .u8)) ∧ A.map (·.block) = g

/-- what a method does to the file: the file's blocks alone turn; its bytes stay where they were or lie in a new block -/
def FileTo (w w' : World) (B p : Nat) (g : Option Nat) (t' : St.T) : Prop :=
  ∃ g', FileAt w' B p g' t' ∧ Chg (fun k => k = p ∨ some k = g) w w' ∧ (g' = g ∨ ∃ k, g' = some k ∧ w.heap.size ≤ k)

theorem new_any (w : World) : Calls Try.prog 9 #[] w fun e w' => e = .returned (.pointer (some ⟨w.heap.size, 0, none⟩)) ∧ FileAt w' w.heap.size w.heap.size none St.new ∧ Below w.heap.size w w' := by
  go_enter Try.func9, Try.ntmps9
  go_wp2
  go_ret
  exact ⟨rfl, ⟨Nat.le_refl _, none, 0, Blk.new _ _ _, World.ownsRow_nil _ _ _ _, rfl⟩, (Below.refl _ _).alloc (Nat.le_refl _) _⟩

theorem powerOn_any (w : World) (B p : Nat) (g : Option Nat) (t : St.T) (h : FileAt w B p g t) : Calls Try.prog 11 #[.pointer (some ⟨p, 0, none⟩)] w fun e w' => e = .returned (.tuple #[]) ∧ FileTo w w' B p g (St.on t) := by
  obtain ⟨hB, A, c, hb, hown, hg⟩ := h
  have h2 := hb.cell 2
  have f2 := hb.frozen 2
  simp at h2
  have HB := Lib.hid hb
  have HO := Lib.hid hown
  clear hb hown
  go_enter Try.func11, Try.ntmps11
  go_wp2
  go_end0
  have hne := own_ne HO.out HB.out (by decide)
  refine ⟨rfl, g, ⟨hB, A, c, ?_, ?_, hg⟩, ?_, .inl rfl⟩
  · have := HB.out.set_ 2 (.bool false)
    simpa [St.on] using this
  · exact own_to HO.out (Chg.setCell _ _ _) (fun g' hg' e => hne (hg'.trans (congrArg some e)))
  · exact (Chg.setCell _ _ _).mono (fun k _ hk => .inl hk)


theorem sync_any (w : World) (B p : Nat) (g : Option Nat) (t : St.T) (h : FileAt w B p g t) (hl : t.data.length ≤ 16777216) : Calls Try.prog 23 #[.pointer (some ⟨p, 0, none⟩)] w fun e w' => e = .returned (.int .i64 (St.syncE t)) ∧ FileTo w w' B p g (St.sync t) := by
  obtain ⟨hB, A, c, hb, hown, hg⟩ := h
  have h2 := hb.cell 2
  have h0 := hb.cell 0
  have h1 := hb.cell 1
  have f1 := hb.frozen 1
  simp at h0 h1 h2
  have HB := Lib.hid hb
  have HO := Lib.hid hown
  have hne := own_ne hown hb (by decide)
  clear hb hown
  cases ho : t.off with
  | true =>
    rw [ho] at h2
    have HOF := Lib.hid ho
    clear ho
    go_enter Try.func23, Try.ntmps23
    go_wp2
    go_ret
    exact ⟨by unfold St.syncE; rw [HOF.out]; rfl, g, by unfold St.sync; rw [HOF.out]; exact ⟨hB, A, c, HB.out, HO.out, hg⟩, Chg.refl _ _, .inl rfl⟩
  | false =>
    rw [ho] at h2
    have HOF := Lib.hid ho
    clear ho
    go_enter Try.func23, Try.ntmps23
    go_wp2
    go_ret
    refine ⟨by unfold St.syncE; rw [HOF.out]; rfl, g, ?_, (Chg.setCell _ _ _).mono (fun k _ hk => .inl hk), .inl rfl⟩
    unfold St.sync
    rw [HOF.out]
    refine ⟨hB, A, c, ?_, own_to HO.out (Chg.setCell _ _ _) (fun g' hg' e => hne (hg'.trans (congrArg some e))), hg⟩
    have := HB.out.set_ 1 (.int .i64 t.data.length)
    simpa [HOF.out] using this

theorem write_any (w : World) (B p : Nat) (g : Option Nat) (t : St.T) (b : List Int) (A' : Option Addr) (c' : Nat) (h : FileAt w B p g t) (hl : t.data.length ≤ 16777216) (hr : Rd w A' (b.map (.int .u8))) (hbl : b.length ≤ maxLen) :
    Calls Try.prog 53 #[.pointer (some ⟨p, 0, none⟩), .slice A' b.length c'] w fun e w' => e = .returned (.int .i64 (St.writeE t b)) ∧ FileTo w w' B p g (St.write t b) := by
  obtain ⟨hB, A, c, hb, hown, hg⟩ := h
  have h2 := hb.cell 2
  have h0 := hb.cell 0
  have f0 := hb.frozen 0
  simp at h0 h2
  have HB := Lib.hid hb
  have HO := Lib.hid hown
  have hne := own_ne hown hb (by decide)
  have HR := Lib.hid hr
  have HBL := Lib.hid hbl
  unfold maxLen at hbl
  clear hb hown hr
  cases ho : t.off with
  | true =>
    rw [ho] at h2
    have HOF := Lib.hid ho
    clear ho
    go_enter Try.func53, Try.ntmps53
    go_wp2
    go_ret
    exact ⟨by unfold St.writeE; rw [HOF.out]; rfl, g, by unfold St.write; rw [HOF.out]; exact ⟨hB, A, c, HB.out, HO.out, hg⟩, Chg.refl _ _, .inl rfl⟩
  | false =>
    rw [ho] at h2
    have HOF := Lib.hid ho
    clear ho
    by_cases hf : t.data.length + b.length ≤ 16777216
    · have HF := Lib.hid (show St.fits t b = true by unfold St.fits; exact decide_eq_true hf)
      have HSZ := Lib.hid (Nat.le_trans hB (Nat.le_of_lt HB.out.lt))
      go_enter Try.func53, Try.ntmps53
      go_wp2_with (at_builtin; refine wpList_app (t.data.length + b.length) ((t.data ++ b).map (.int .u8)) rfl rfl slU8 HO.out rfl HR.out rfl (by simp) oneCell_ints (by unfold maxLen; omega) HSZ.out rfl (by simp) ?_; intro A2 c2 w2 hown2 hbel2 hgr2 hd2
                   rw [ownBlock_slice] at hgr2 hd2
                   rw [ownBlock_slice] at hd2
                   have hc2 := Chg.grown hgr2
                   have hb2 := HB.out.chg hc2 (fun e => hne e.symm)
                   have h20 := hb2.cell 0
                   have h2f := hb2.frozen 0
                   simp at h20
                   have HB2 := Lib.hid hb2
                   have HO2 := Lib.hid hown2
                   have HC2 := Lib.hid hc2
                   have HD2 := Lib.hid hd2
                   clear hown2 hbel2 hgr2 hb2 hc2 hd2)
      go_ret
      have hne2 := own_ne HO2.out HB2.out (by decide)
      refine ⟨by unfold St.writeE; rw [HOF.out, HF.out]; rfl, A2.map (·.block), ?_, ?_, ?_⟩
      · have e : St.write t b = { t with data := t.data ++ b } := by unfold St.write; rw [HOF.out, HF.out]; rfl
        rw [e]
        refine ⟨hB, A2, c2, ?_, ?_, rfl⟩
        · have := HB2.out.set_ 0 (.slice A2 (t.data.length + b.length) c2)
          simpa [HOF.out] using this
        · have := own_to HO2.out (Chg.setCell w2 ⟨p, 0, none⟩ (.slice A2 (t.data.length + b.length) c2)) (fun g' hg' e => hne2 (hg'.trans (congrArg some e)))
          simpa using this
      · exact (HC2.out.mono (fun k _ hk => .inr (by rw [hk, hg]))).trans (Chg.setCell _ _ _) (fun k _ hk => .inl hk)
      · rcases HD2.out with e | e
        · exact .inl (by rw [e, hg])
        · exact .inr ⟨_, e, Nat.le_refl _⟩
    · have HF := Lib.hid (show St.fits t b = false by unfold St.fits; exact decide_eq_false hf)
      go_enter Try.func53, Try.ntmps53
      go_wp2
      go_ret
      exact ⟨by unfold St.writeE; rw [HOF.out, HF.out]; rfl, g, by unfold St.write; rw [HOF.out, HF.out]; exact ⟨hB, A, c, HB.out, HO.out, hg⟩, Chg.refl _ _, .inl rfl⟩


theorem sbytes_any (w : World) (B p : Nat) (g : Option Nat) (t : St.T) (h : FileAt w B p g t) (hl : t.data.length ≤ 16777216) (ho : t.off = false) : Calls Try.prog 19 #[.pointer (some ⟨p, 0, none⟩)] w fun e w' =>
    ∃ A c, e = .returned (.tuple #[.slice A t.data.length c, .int .i64 0]) ∧ w'.ownsRow w.heap.size 5 1 (.slice A t.data.length c) t.data.length (t.data.map (.int .u8)) ∧ Below w.heap.size w w' := by
  obtain ⟨hB, A, c, hb, hown, hg⟩ := h
  have h2 := hb.cell 2
  have h0 := hb.cell 0
  simp at h0 h2
  rw [ho] at h2
  have HR := Lib.hid (Rd.of_own hown)
  have HN := Lib.hid (World.ownsRow_nil w w.heap.size 5 1)
  clear hb hown ho hg
  go_enter Try.func19, Try.ntmps19
  go_wp2_with (at_builtin; refine wpList_app t.data.length (t.data.map (.int .u8)) rfl rfl slU8 HN.out rfl HR.out rfl (by simp) oneCell_ints (by unfold maxLen; omega) (Nat.le_refl _) (by omega) rfl ?_; intro A2 c2 w2 hown2 hbel2 _ _)
  go_ret2
  exact ⟨A2, c2, rfl, hown2, hbel2⟩

theorem bytesOff_any (w : World) (B p : Nat) (g : Option Nat) (t : St.T) (h : FileAt w B p g t) (ho : t.off = true) : Calls Try.prog 19 #[.pointer (some ⟨p, 0, none⟩)] w fun e w' =>
    e = .returned (.tuple #[.slice none 0 0, .int .i64 7]) ∧ w = w' := by
  obtain ⟨hB, A, c, hb, hown, hg⟩ := h
  have h2 := hb.cell 2
  simp at h2
  rw [ho] at h2
  clear hb hown ho hg
  go_enter Try.func19, Try.ntmps19
  go_wp2
  go_ret2
  exact ⟨rfl, rfl⟩

theorem truncate_any (w : World) (B p : Nat) (g : Option Nat) (t : St.T) (n : Int) (h : FileAt w B p g t) (hl : t.lasts ≤ t.data.length ∧ t.data.length ≤ 16777216) : Calls Try.prog 22 #[.pointer (some ⟨p, 0, none⟩), .int .i64 n] w fun e w' => e = .returned (.int .i64 (St.shortE t n)) ∧ FileTo w w' B p g (St.short t n) := by
  obtain ⟨hB, A, c, hb, hown, hg⟩ := h
  have h2 := hb.cell 2
  have h1 := hb.cell 1
  have h0 := hb.cell 0
  have f0 := hb.frozen 0
  have f1 := hb.frozen 1
  simp at h0 h1 h2
  have HB := Lib.hid hb
  have HO := Lib.hid hown
  have hne := own_ne hown hb (by decide)
  obtain ⟨hl1, hl2⟩ := hl
  have hcap := (own_cap hown).1
  clear hb hown
  have bad : ∀ n, ¬ (0 ≤ n ∧ n ≤ (t.data.length : Int)) → St.shortE t n = 1 ∧ FileTo w w B p g (St.short t n) := fun n hn =>
    ⟨by unfold St.shortE; rw [if_neg hn], g, by unfold St.short; rw [if_neg hn]; exact ⟨hB, A, c, HB.out, HO.out, hg⟩, Chg.refl _ _, .inl rfl⟩
  have HBAD := Lib.hid bad
  clear bad
  by_cases hn0 : n < 0
  · have HS := Lib.hid (show ¬ (0 ≤ n ∧ n ≤ t.data.length) by omega)
    go_enter Try.func22, Try.ntmps22
    go_wp2
    go_ret
    exact ⟨by rw [(HBAD.out _ HS.out).1]; rfl, (HBAD.out _ HS.out).2⟩
  · by_cases hn1 : (t.data.length : Int) < n
    · have HS := Lib.hid (show ¬ (0 ≤ n ∧ n ≤ t.data.length) by omega)
      go_enter Try.func22, Try.ntmps22
      go_wp2
      go_ret
      exact ⟨by rw [(HBAD.out _ HS.out).1]; rfl, (HBAD.out _ HS.out).2⟩
    · obtain ⟨k, rfl⟩ := Int.eq_ofNat_of_zero_le (show 0 ≤ n by omega)
      have HS := Lib.hid (show 0 ≤ (k : Int) ∧ (k : Int) ≤ t.data.length by omega)
      have hkl : k ≤ t.data.length := by omega
      cases ho : t.off with
      | true =>
        rw [ho] at h2
        have HOF := Lib.hid ho
        clear ho
        go_enter Try.func22, Try.ntmps22
        go_wp2
        go_ret
        exact ⟨by unfold St.shortE; rw [if_pos HS.out, HOF.out]; rfl, g, by unfold St.short; rw [if_pos HS.out, HOF.out]; exact ⟨hB, A, c, HB.out, HO.out, hg⟩, Chg.refl _ _, .inl rfl⟩
      | false =>
        rw [ho] at h2
        have HOF := Lib.hid ho
        clear ho
        have e : St.short t (k : Int) = { t with data := t.data.take k, lasts := min t.lasts k } := by unfold St.short; rw [if_pos HS.out, HOF.out]; rfl
        have HE := Lib.hid e
        have HK := Lib.hid hkl
        have fin : ∀ z : Nat, z = min t.lasts k → FileTo w ((w.setCell ⟨p, 0, none⟩ (.slice A k c)).setCell ⟨p, 1, none⟩ (.int .i64 z)) B p g (St.short t (k : Int)) := by
          intro z hz
          subst hz
          have hlen : (t.data.take k).length = k := by rw [List.length_take]; omega
          refine ⟨g, ?_, ((Chg.setCell w ⟨p, 0, none⟩ (.slice A k c)).trans (Chg.setCell _ ⟨p, 1, none⟩ _) (fun _ _ h => h)).mono (fun k _ hk => .inl hk), .inl rfl⟩
          rw [HE.out]
          have hb2 := (HB.out.set_ 0 (.slice A k c)).set_ 1 (.int .i64 (min t.lasts k : Nat))
          have ho2 := own_take HO.out k hkl
          refine ⟨hB, A, c, ?_, ?_, ?_⟩
          · show Blk _ p 75 #[.slice A (t.data.take k).length c, .int .i64 (min t.lasts k : Nat), .bool t.off]
            rw [hlen]; exact hb2
          · have h1 := own_to ho2 (Chg.setCell w ⟨p, 0, none⟩ (.slice A k c)) (fun g' hg' e => hne (hg'.trans (congrArg some e)))
            have h2 := own_to h1 (Chg.setCell _ ⟨p, 1, none⟩ (.int .i64 (min t.lasts k : Nat))) (fun g' hg' e => hne (hg'.trans (congrArg some e)))
            show World.ownsRow _ B _ 1 (.slice A (t.data.take k).length c) (t.data.take k).length ((t.data.take k).map (.int .u8))
            rw [hlen, List.map_take]; rw [Nat.mul_one] at h2; exact h2
          · exact hg
        have HFIN := Lib.hid fin
        clear e fin
        go_enter Try.func22, Try.ntmps22
        go_wp2
        all_goals
          go_ret
          exact ⟨by unfold St.shortE; rw [if_pos HS.out, HOF.out]; rfl, HFIN.out _ (by omega)⟩

theorem powerFail_any (w : World) (B p : Nat) (g : Option Nat) (t : St.T) (keep m : Int) (h : FileAt w B p g t) (hl : t.lasts ≤ t.data.length ∧ t.data.length ≤ 16777216) (hk : -9223372036854775808 ≤ keep ∧ keep ≤ 9223372036854775807) :
    Calls Try.prog 10 #[.pointer (some ⟨p, 0, none⟩), .int .i64 keep, .int .u8 m] w fun e w' => e = .returned (.tuple #[]) ∧ FileTo w w' B p g (St.cut t keep m) := by
  obtain ⟨hB, A, c, hb, hown, hg⟩ := h
  have h2 := hb.cell 2
  have h1 := hb.cell 1
  have h0 := hb.cell 0
  have f0 := hb.frozen 0
  have f1 := hb.frozen 1
  have f2 := hb.frozen 2
  simp at h0 h1 h2
  have HB := Lib.hid hb
  have HO := Lib.hid hown
  have hne := own_ne hown hb (by decide)
  obtain ⟨hl1, hl2⟩ := hl
  obtain ⟨hk1, hk2⟩ := hk
  have hcap := (own_cap hown).1
  clear hb hown
  cases ho : t.off with
  | true =>
    rw [ho] at h2
    have HOF := Lib.hid ho
    clear ho
    go_enter Try.func10, Try.ntmps10
    go_wp2
    refine bodyPost_ret (results_none rfl _ _ _) rfl ?_
    exact ⟨rfl, g, by unfold St.cut; rw [HOF.out]; exact ⟨hB, A, c, HB.out, HO.out, hg⟩, Chg.refl _ _, .inl rfl⟩
  | false =>
    rw [ho] at h2
    have HOF := Lib.hid ho
    clear ho
    go_enter Try.func10, Try.ntmps10
    go_wp2
    obtain ⟨kk, hkk⟩ : ∃ kk : Nat, kk = min (max keep 0).toNat (t.data.length - t.lasts) := ⟨_, rfl⟩
    have hkl : kk ≤ t.data.length - t.lasts := by omega
    have HK := Lib.hid hkk
    clear hkk
    go_upto_region 2 with (fail)
    go_cut [1] (fun v wx => v = .int .i64 kk ∧ ∃ n, wx = (w.setCell ⟨p, 2, none⟩ (.bool true)).drewN n)
    case first =>
      go_quiet (fail)
      all_goals go_wp2
      all_goals
        go_meet
        case rel => exact ⟨congrArg (Value.int .i64) (by have := HK.out; omega), _, rfl⟩
    case rest =>
      obtain ⟨rfl, n, rfl⟩ := hcut
      have hkept : St.kept t keep = t.lasts + kk := by unfold St.kept; rw [HK.out]
      have HKP := Lib.hid hkept
      clear HK hkept
      have hsum : t.lasts + kk ≤ c := by omega
      by_cases hkp : 0 < kk
      · obtain ⟨g0, hA, hg0, hg1⟩ := own_addr HO.out (by omega)
        subst hA
        have hgp : g0 ≠ p := fun e => hne (by rw [e]; rfl)
        have hcx := HO.out.cellAt (t.lasts + kk - 1) (by omega)
        have hlt : t.lasts + kk - 1 < t.data.length := by omega
        rw [List.getElem?_map, List.getElem?_eq_getElem hlt, Option.map_some] at hcx
        obtain ⟨x, hx⟩ : ∃ x, t.data[t.lasts + kk - 1] = x := ⟨_, rfl⟩
        rw [hx] at hcx
        have hfx := HO.out.frozenAt (t.lasts + kk - 1)
        have HX := Lib.hid hx
        have HG := Lib.hid hg
        clear hx hne hg
        go_wp2
        go_region
        go_wp2
        go_region
        go_wp2
        go_end0
        have hgp' : p ≠ g0 := fun e => hgp e.symm
        have hno : ∀ g', (some (⟨g0, 0, none⟩ : Addr)).map (·.block) = some g' → ¬ g' = p := fun g' h e => hgp (by injection h with h; rw [← e, ← h])
        have e : St.cut t keep m = ⟨(t.data.take (t.lasts + kk)).set (t.lasts + kk - 1) (bits .xor .u8 x m), t.lasts + kk, true⟩ := by
          unfold St.cut
          simp only [HOF.out, HKP.out, Bool.false_eq_true, if_false]
          rw [if_pos (by omega), St.xorLast_take t.data _ m x (by omega) (by omega) HX.out]
        have hlen : ((t.data.take (t.lasts + kk)).set (t.lasts + kk - 1) (bits .xor .u8 x m)).length = t.lasts + kk := by rw [List.length_set, List.length_take]; omega
        rw [e]
        refine ⟨rfl, some g0, ⟨hB, some ⟨g0, 0, none⟩, c, ?_, ?_, rfl⟩, ?_, .inl HG.out⟩
        · show Blk _ p 75 #[.slice _ ((t.data.take (t.lasts + kk)).set (t.lasts + kk - 1) (bits .xor .u8 x m)).length c, .int .i64 (t.lasts + kk : Nat), .bool true]
          rw [hlen]
          exact (((((HB.out.set_ 2 (.bool true)).drewN (n + 1)).set_ 0 (.slice (some ⟨g0, 0, none⟩) (t.lasts + kk) c)).far (p := ⟨g0, t.lasts + kk - 1, none⟩) hgp' (.int .u8 (bits .xor .u8 x m))).set_ 1 (.int .i64 (t.lasts + kk))).drew
        · show World.ownsRow _ B _ 1 (.slice _ ((t.data.take (t.lasts + kk)).set (t.lasts + kk - 1) (bits .xor .u8 x m)).length c) ((t.data.take (t.lasts + kk)).set (t.lasts + kk - 1) (bits .xor .u8 x m)).length _
          rw [hlen, List.map_set, List.map_take]
          have o1 := own_to HO.out (Chg.setCell w ⟨p, 2, none⟩ (.bool true)) hno
          have o2 := own_take (own_drewN o1 (n + 1)) (t.lasts + kk) (by omega)
          have o3 := own_to o2 (Chg.setCell _ ⟨p, 0, none⟩ (.slice (some ⟨g0, 0, none⟩) (t.lasts + kk) c)) hno
          have o4 := (o3.stored (t.lasts + kk - 1) (.int .u8 (bits .xor .u8 x m))).1
          have o5 := own_to o4 (Chg.setCell _ ⟨p, 1, none⟩ (.int .i64 (t.lasts + kk))) hno
          rw [Nat.mul_one] at o5
          exact o5
        · refine Chg.trans (S' := fun k => k = p ∨ some k = g) ?_ (Chg.drewN _ 1 _) (fun _ _ h => h)
          refine Chg.trans (S' := fun k => k = p ∨ some k = g) ?_ ((Chg.setCell _ _ _).mono (fun k _ hk => .inl hk)) (fun _ _ h => h)
          refine Chg.trans (S' := fun k => k = p ∨ some k = g) ?_ ((Chg.setCell _ _ _).mono (fun k _ hk => .inr (by rw [hk]; exact HG.out))) (fun _ _ h => h)
          refine Chg.trans (S' := fun k => k = p ∨ some k = g) ?_ ((Chg.setCell _ _ _).mono (fun k _ hk => .inl hk)) (fun _ _ h => h)
          refine Chg.trans (S' := fun k => k = p ∨ some k = g) ?_ (Chg.drewN _ _ _) (fun _ _ h => h)
          exact (Chg.setCell _ _ _).mono (fun k _ hk => .inl hk)
      · have HKK := Lib.hid (show kk = 0 by omega)
        go_wp2
        go_region
        go_wp2
        go_end0
        have hno : ∀ g', A.map (·.block) = some g' → ¬ g' = p := fun g' h e => hne (by rw [h, e])
        have e : St.cut t keep m = ⟨t.data.take (t.lasts + kk), t.lasts + kk, true⟩ := by
          unfold St.cut
          simp only [HOF.out, HKP.out, Bool.false_eq_true, if_false]
          rw [if_neg (by omega)]
        have hlen : (t.data.take (t.lasts + kk)).length = t.lasts + kk := by rw [List.length_take]; omega
        rw [e]
        refine ⟨rfl, g, ⟨hB, A, c, ?_, ?_, hg⟩, ?_, .inl rfl⟩
        · show Blk _ p 75 #[.slice _ (t.data.take (t.lasts + kk)).length c, .int .i64 (t.lasts + kk : Nat), .bool true]
          rw [hlen]
          exact (((HB.out.set_ 2 (.bool true)).drewN (n + 1)).set_ 0 (.slice A (t.lasts + kk) c)).set_ 1 (.int .i64 (t.lasts + kk))
        · show World.ownsRow _ B _ 1 (.slice _ (t.data.take (t.lasts + kk)).length c) (t.data.take (t.lasts + kk)).length _
          rw [hlen, List.map_take]
          have o1 := own_to HO.out (Chg.setCell w ⟨p, 2, none⟩ (.bool true)) hno
          have o2 := own_take (own_drewN o1 (n + 1)) (t.lasts + kk) (by omega)
          have o3 := own_to o2 (Chg.setCell _ ⟨p, 0, none⟩ (.slice A (t.lasts + kk) c)) hno
          have o5 := own_to o3 (Chg.setCell _ ⟨p, 1, none⟩ (.int .i64 (t.lasts + kk))) hno
          rw [Nat.mul_one] at o5
          exact o5
        · refine Chg.trans (S' := fun k => k = p ∨ some k = g) ?_ ((Chg.setCell _ _ _).mono (fun k _ hk => .inl hk)) (fun _ _ h => h)
          refine Chg.trans (S' := fun k => k = p ∨ some k = g) ?_ ((Chg.setCell _ _ _).mono (fun k _ hk => .inl hk)) (fun _ _ h => h)
          refine Chg.trans (S' := fun k => k = p ∨ some k = g) ?_ (Chg.drewN _ _ _) (fun _ _ h => h)
          exact (Chg.setCell _ _ _).mono (fun k _ hk => .inl hk)

end Go.Proofs.Ytgpdodhegacndaa
