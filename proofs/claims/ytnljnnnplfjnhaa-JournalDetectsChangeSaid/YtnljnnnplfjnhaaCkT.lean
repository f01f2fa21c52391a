import Derived.Test.YtnljnnnplfjnhaaProg
import Derived.Test.YtnljnnnplfjnhaaLib
import Derived.Test.YtnljnnnplfjnhaaCkMath
import Derived.Test.YtnljnnnplfjnhaaSl
import Derived.Deep.QuietTactic
import Derived.BigQuiet
namespace Go.Proofs.Ytnljnnnplfjnhaa
set_option linter.unusedSimpArgs false
set_option linter.unusedVariables false
open Go.RowKit
set_option maxRecDepth 100000 in
theorem step_any (s b : Nat) (w : World) (hs : s < 18446744073709551616) (hb : b < 256) :
    Calls Try.prog 55 #[.int .u64 s, .int .u8 b] w fun e w' => e = .returned (.int .u64 (Ck.stepI s b)) ∧ ∃ n, w' = w.drewN n := by
  have HS := Lib.hid hs
  clear hs
  go_enter Try.func55, Try.ntmps55
  go_wp2
  go_loopw [6, 7] (fun x v wr => ∃ k p y : Nat, Ck.Stp s b k p y ∧ v = .int .u64 p ∧ x = .int .u64 y ∧ ∃ n, wr = w.drewN n) (fun _ v _ => 256 - (intOf v).toNat)
  case atStart => exact ⟨0, 1, 0, ⟨by omega, rfl, by simp [Nat.mod_one]⟩, rfl, rfl, 0, rfl⟩
  case round =>
    obtain ⟨k, p, y, hst, rfl, rfl, n, rfl⟩ := hrel
    have hbd := hst.bd
    obtain ⟨hp0, hp1, hp2⟩ := hbd
    by_cases hlt : p < 256
    · go_wp2
      go_quiet (fail)
      have ht := Ck.tst s b p hb
      by_cases hd : s % 256 / p % 2 = b / p % 2
      · rw [decide_eq_true hd, Bool.not_true] at ht
        have HD := Lib.hid hd
        clear hd
        go_wp2
        go_roundw
        case rel => exact ⟨k + 1, p * 2, y, hst.same (hst.lt hlt) HD.out, by go_num, rfl, _, rfl⟩
        case measure => simp [intOf]; omega
      · rw [decide_eq_false hd, Bool.not_false] at ht
        have HD := Lib.hid hd
        clear hd
        go_wp2
        go_roundw
        case rel => exact ⟨k + 1, p * 2, y + p, hst.diff (hst.lt hlt) HD.out, by go_num, by go_num, _, rfl⟩
        case measure => simp [intOf]; omega
    · have hf := Lib.hid (hst.fin hlt hb)
      have hr := Lib.hid (Ck.stepI_ref s b HS.out hb)
      go_wp2
      go_ret
      exact ⟨ret_int (by rw [hf.out]; exact hr.out), _, rfl⟩

theorem step_int (s b : Int) (w : World) (hs : Ck.U64 s) (hb : 0 ≤ b ∧ b < 256) :
    Calls Try.prog 55 #[.int .u64 s, .int .u8 b] w fun e w' => e = .returned (.int .u64 (Ck.stepI s b)) ∧ ∃ n, w' = w.drewN n := by
  obtain ⟨S, rfl⟩ := Int.eq_ofNat_of_zero_le hs.1
  obtain ⟨B, rfl⟩ := Int.eq_ofNat_of_zero_le hb.1
  exact step_any S B w (by have := hs.2; omega) (by omega)

set_option maxRecDepth 100000 in
theorem more_any (s : Int) (A : Option Addr) (l : List Int) (cap : Nat) (w : World) (hr : Rd w A (l.map (Value.int .u8))) (hl : l.length ≤ maxLen) (hb : Ck.Bts l) (hs : Ck.U64 s) :
    Calls Try.prog 48 #[.int .u64 s, .slice A l.length cap] w fun e w' => e = .returned (.int .u64 (Ck.moreI s l)) ∧ ∃ n, w' = w.drewN n := by
  unfold maxLen at hl
  have HR := Lib.hid hr
  have HB := Lib.hid hb
  have HS := Lib.hid hs
  clear hr hb hs
  go_enter Try.func48, Try.ntmps48
  go_wp2
  go_loopw [0, 5] (fun t i wr => ∃ k : Nat, k ≤ l.length ∧ i = .int .i64 k ∧ t = .int .u64 (Ck.moreI s (l.take k)) ∧ ∃ n, wr = w.drewN n) (fun _ i _ => l.length - (intOf i).toNat)
  case atStart => exact ⟨0, Nat.zero_le _, rfl, rfl, 0, rfl⟩
  case round =>
    obtain ⟨k, hk, rfl, rfl, n, rfl⟩ := hrel
    by_cases hlt : k < l.length
    · obtain ⟨ad, hA, hc⟩ := HR.out k (.int .u8 l[k]) (by simp [hlt])
      subst hA
      have HT := Lib.hid (Ck.moreI_take (s := s) hlt)
      have H1 := Lib.hid (Ck.moreI_bd (l.take k) s HS.out)
      have H2 := Lib.hid (HB.out l[k] (List.getElem_mem hlt))
      go_wp2_with (go_at_call 55; refine (step_int _ _ _ H1.out H2.out).mono ?_; rintro e w' ⟨rfl, n', rfl⟩)
      go_roundw
      case rel => exact ⟨k + 1, by omega, by go_num, by rw [HT.out], _, rfl⟩
      case measure => simp [intOf]; omega
    · go_wp2
      go_ret
      exact ⟨ret_int (by rw [List.take_of_length_le (by omega)]), _, rfl⟩

theorem of_any (A : Option Addr) (l : List Int) (cap : Nat) (w : World) (hr : Rd w A (l.map (Value.int .u8))) (hl : l.length ≤ maxLen) (hb : Ck.Bts l) :
    Calls Try.prog 35 #[.slice A l.length cap] w fun e w' => e = .returned (.int .u64 (Ck.moreI Ck.init l)) ∧ ∃ n, w' = w.drewN n := by
  have h := more_any 14695981039346656037 A l cap w hr hl hb (by unfold Ck.U64; omega)
  have H := Lib.hid h; clear h
  go_enter Try.func35, Try.ntmps35
  go_wp2_with (go_at_call 48; refine H.out.mono ?_; rintro e w' ⟨rfl, n, rfl⟩)
  go_ret
  exact ⟨rfl, _, rfl⟩


theorem bytes_any (n : Int) (w : World) (hn : Ck.U64 n) :
    Calls Try.prog 42 #[.int .u64 n] w fun e w' => ∃ A c, e = .returned (.slice A 8 c) ∧ w'.ownsRow w.heap.size 5 1 (.slice A 8 c) 8 ((Ck.bytesI n).map (Value.int .u8)) ∧ Below w.heap.size w w' := by
  have HN := Lib.hid hn
  clear hn
  go_enter Try.func42, Try.ntmps42
  go_wp2
  go_loopw [0, 3, 4] (fun t v i wr => ∃ k : Nat, k ≤ 8 ∧ i = .int .i64 k ∧ t = .int .u64 (n / 2 ^ (8 * k)) ∧ wr.ownsRow w.heap.size 5 1 v k (((Ck.bytesI n).take k).map (Value.int .u8)) ∧ Below w.heap.size w wr) (fun _ _ i _ => 8 - (intOf i).toNat)
  case atStart => exact ⟨0, Nat.zero_le _, rfl, by simp, World.ownsRow_nil _ _ _ _, Below.refl _ _⟩
  case round =>
    obtain ⟨k, hk, rfl, rfl, hown, hbel⟩ := hrel
    by_cases hlt : k < 8
    · have hsz := hbel.size
      have HO := Lib.hid hown
      clear hown
      have hbd : k + 1 ≤ maxLen ∧ (k + 1) * 1 ≤ 140737488355328 := by unfold maxLen; omega
      have HB := Lib.hid hbd
      have HS := Lib.hid hsz
      clear hbd hsz
      have hn0 : 0 ≤ n / 2 ^ (8 * k) := Int.ediv_nonneg HN.out.1 (Int.le_of_lt (Int.pow_pos (by omega)))
      have HE := Lib.hid (congrArg (Value.int .u64) (Ck.quo256 n k HN.out))
      go_wp2_with (at_builtin; refine wpList_app _ _ rfl rfl slU8 (HO.out.alloc _) rfl (Rd.one _ _ _) rfl rfl oneCell_one HB.out (le_alloc HS.out _) rfl rfl ?_; intro A1 c1 w1 hown1 hbel1 _ _)
      go_roundw
      case rel =>
        refine ⟨k + 1, by omega, by go_num, HE.out, ?_, ?_⟩
        · rw [List.take_succ_eq_append_getElem (by rw [Ck.bytesI_length]; exact hlt), List.map_append]
          simpa [Ck.bytesI, Ck.byteI] using hown1
        · exact (hbel.alloc HS.out _).trans hbel1
      case measure => simp [intOf]; omega
    · go_wp2
      go_ret
      obtain ⟨A, c, rfl⟩ := own_form hown
      obtain rfl : k = 8 := by omega
      exact ⟨_, _, rfl, by rw [List.take_of_length_le (by simp [Ck.bytesI_length])] at hown; exact hown, hbel⟩

set_option maxRecDepth 100000 in
theorem link_any (prev kind : Int) (A : Option Addr) (l : List Int) (cap : Nat) (w : World) (hr : Rd w A (l.map (Value.int .u8))) (hl : l.length ≤ 100000) (hp : Ck.U64 prev) (hk : 0 ≤ kind ∧ kind < 256) (hb : Ck.Bts l) :
    Calls Try.prog 36 #[.int .u64 prev, .int .u8 kind, .slice A l.length cap] w fun e w' => e = .returned (.int .u64 (Ck.recI prev kind l)) ∧ Below w.heap.size w w' := by
  have hw : IntKind.u64.wrap (l.length : Int) = (l.length : Int) := by rw [IntKind.wrap_u64]; omega
  have HR := Lib.hid hr
  have HL := Lib.hid hl
  have HP := Lib.hid hp
  have HK := Lib.hid hk
  have HBT := Lib.hid hb
  clear hr hl hp hk hb
  go_enter Try.func36, Try.ntmps36
  go_wp2_with fail
  refine (bytes_any _ _ HP.out).mono ?_
  rintro e w1 ⟨A1, c1, rfl, hown1, hbel1⟩
  have HO1 := Lib.hid hown1
  have HB1 := Lib.hid hbel1
  clear hown1 hbel1
  go_wp2_with (at_builtin; refine wpList_app _ _ rfl rfl slU8 (HO1.out.alloc _) rfl (Rd.one _ _ _) rfl rfl oneCell_one (by unfold maxLen; omega) (le_alloc HB1.out.size _) rfl rfl ?_; intro A2 c2 w2 hown2 hbel2 _ _)
  have hb02 := Lib.hid ((HB1.out.alloc HB1.out.size _).trans hbel2)
  have HO2 := Lib.hid hown2
  clear hown2 hbel2
  refine (bytes_any _ _ (by unfold Ck.U64; have := HL.out; omega)).mono ?_
  rintro e w3 ⟨A3, c3, rfl, hown3, hbel3⟩
  have hb03 := Lib.hid (hb02.out.trans (hbel3.mono hb02.out.size))
  have HO23 := Lib.hid (own_below HO2.out hbel3 (Nat.le_refl _))
  have HR3 := Lib.hid (Rd.of_own hown3)
  clear hown3 hbel3
  have hl5 : (l.map (Value.int .u8)).length = l.length * 1 := by simp
  have hm5 : 8 + 1 + 8 + l.length ≤ maxLen ∧ (8 + 1 + 8 + l.length) * 1 ≤ 140737488355328 := by unfold maxLen; have := HL.out; omega
  have HL5 := Lib.hid hl5
  have HM5 := Lib.hid hm5
  clear hl5 hm5
  go_wp2_with (first
    | (at_builtin; refine wpList_app _ _ rfl rfl slU8 HO23.out rfl HR3.out rfl (by simp [Ck.bytesI_length]) oneCell_ints (by unfold maxLen; omega) hb03.out.size rfl rfl ?_; intro A4 c4 w4 hown4 hbel4 _ _
       have hb04 := Lib.hid (hb03.out.trans hbel4)
       have HO4 := Lib.hid hown4
       have HR4 := Lib.hid (HR.out.low hb04.out)
       clear hown4 hbel4)
    | (at_builtin; refine wpList_app _ _ rfl rfl slU8 HO4.out rfl HR4.out rfl HL5.out oneCell_ints HM5.out hb04.out.size rfl rfl ?_; intro A5 c5 w5 hown5 hbel5 _ _))
  have hb05 := Lib.hid (hb04.out.trans hbel5)
  have e : List.map (Value.int IntKind.u8) (Ck.bytesI prev) ++ [Value.int IntKind.u8 kind] ++ List.map (Value.int IntKind.u8) (Ck.bytesI ↑l.length) ++ List.map (Value.int IntKind.u8) l = List.map (Value.int .u8) (Ck.bytesI prev ++ [kind] ++ Ck.bytesI ↑l.length ++ l) := by simp
  have e2 : 8 + 1 + 8 + l.length = (Ck.bytesI prev ++ [kind] ++ Ck.bytesI ↑l.length ++ l).length := by simp [Ck.bytesI_length]; omega
  have HR5 := Lib.hid (e ▸ Rd.of_own hown5)
  have HS5 := Lib.hid (hown5)
  clear hown5 hbel5
  have ho := of_any A5 _ c5 w5 HR5.out (by rw [← e2]; unfold maxLen; have := HL.out; omega) (((Ck.Bts.append (Ck.Bts.append (Ck.Bts.append (Ck.bytesI_bts _) (fun x hx => by simp at hx; subst hx; exact HK.out)) (Ck.bytesI_bts _))) HBT.out))
  rw [← e2] at ho
  have HOF := Lib.hid ho
  clear ho e e2
  go_wp2_with (go_at_call 35; refine HOF.out.mono ?_; rintro e w' ⟨rfl, n, rfl⟩)
  go_ret
  exact ⟨ret_int (Ck.recI_eq _ _ _).symm, hb05.out.trans ⟨rfl, rfl, rfl, Nat.le_refl _, fun _ _ => rfl⟩⟩

end Go.Proofs.Ytnljnnnplfjnhaa
