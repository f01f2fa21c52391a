import Derived.Test.YtmabbdkckdpeoabProg
import Derived.Test.YtmabbdkckdpeoabLib
import Derived.Test.YtmabbdkckdpeoabCkMath
import Derived.Deep.QuietTactic
import Derived.BigQuiet
namespace Go.Proofs.Ytmabbdkckdpeoab
open Go.RowKit
theorem format_any (n : Nat) (w : World) (hn : n < 18446744073709551616) :
    Calls Try.prog 14 #[.int .u64 n] w fun e w' => e = .returned (.string ⟨(Ck.fmt n).toArray⟩) ∧ Below w.heap.size w w' := by
  have hn := Lib.hid hn
  go_enter Try.func14, Try.ntmps14
  go_wp2
  go_loopw [4, 5] (fun _ i wr => ∃ k : Nat, k ≤ 16 ∧ i = .int .i64 k ∧ wr = w.alloc (.cells (Ck.fmtCells n k) 42)) (fun _ i _ => 16 - (intOf i).toNat)
  case atStart => exact ⟨0, Nat.zero_le _, rfl, rfl⟩
  case round =>
    obtain ⟨k, hk, rfl, rfl⟩ := hrel
    by_cases hlt : k < 16
    · have ha := Ck.and15 n k hn.out
      have hm : ((n / 2 ^ (4 * k) % 16 : Nat) : Int) < 16 := by omega
      have hc := Ck.fmtCells_at n k (15 - k) (by omega)
      obtain ⟨d, hd⟩ : ∃ d, n / 2 ^ (4 * k) % 16 = d := ⟨_, rfl⟩
      have HS := Lib.hid (Ck.fmtCells_set n k hlt)
      unfold Ck.dig at HS
      rw [hd] at ha hm HS
      have HD := Lib.hid hd
      clear hd
      go_wp2
      go_roundw
      case rel => 
        refine ⟨k + 1, by omega, by go_num, ?_⟩
        rw [← HS.out, ← Ck.hexs_at d (by omega) (by show d < 16; omega)]
        rfl
      case measure => simp [intOf]; omega
    · have hcc := Ck.fmtI_cells n
      rw [show 16 = k by omega] at hcc
      have hlen := Ck.fmtI_length n
      have hstr := run_str (P := Try.prog) (w.alloc (.cells (Ck.fmtCells n k) 42)) 23 9 5 (some ⟨w.heap.size, 0, none⟩) (Ck.fmtI n) 16 16 Try.underlying23 Try.underlying5 Try.underlying9
        (Rd.block (heap_alloc_new w _) hcc) hlen
      clear hlen hcc
      go_wp2
      go_ret
      exact ⟨by simp only [bstr, Ck.fmtI_fmt]; rfl, (Below.refl _ _).alloc (Nat.le_refl _) _⟩

set_option maxRecDepth 100000 in
theorem step_any (s b : Nat) (w : World) (hs : s < 18446744073709551616) (hb : b < 256) :
    Calls Try.prog 23 #[.int .u64 s, .int .u8 b] w fun e w' => e = .returned (.int .u64 (Ck.stepI s b)) ∧ ∃ n, w' = w.drewN n := by
  have HS := Lib.hid hs
  clear hs
  go_enter Try.func23, Try.ntmps23
  go_wp2
  go_loopw [6, 7] (fun x v wr => ∃ k p y : Nat, Ck.Stp s b k p y ∧ v = .int .u64 p ∧ x = .int .u64 y ∧ ∃ n, wr = w.drewN n) (fun _ v _ => 256 - (intOf v).toNat)
  case atStart => exact ⟨0, 1, 0, ⟨by omega, rfl, by simp [Nat.mod_one]⟩, rfl, rfl, 0, rfl⟩
  case round =>
    obtain ⟨k, p, y, hst, rfl, rfl, n, rfl⟩ := hrel
    have hbd := hst.bd
    obtain ⟨hp0, hp1, hp2⟩ := hbd
    by_cases hlt : p < 256
    · go_wp2
      go_quiet (fail)
      have ht := Ck.tst s b p hb
      by_cases hd : s % 256 / p % 2 = b / p % 2
      · rw [decide_eq_true hd, Bool.not_true] at ht
        have HD := Lib.hid hd
        clear hd
        go_wp2
        go_roundw
        case rel => exact ⟨k + 1, p * 2, y, hst.same (hst.lt hlt) HD.out, by go_num, rfl, _, rfl⟩
        case measure => simp [intOf]; omega
      · rw [decide_eq_false hd, Bool.not_false] at ht
        have HD := Lib.hid hd
        clear hd
        go_wp2
        go_roundw
        case rel => exact ⟨k + 1, p * 2, y + p, hst.diff (hst.lt hlt) HD.out, by go_num, by go_num, _, rfl⟩
        case measure => simp [intOf]; omega
    · have hf := Lib.hid (hst.fin hlt hb)
      have hr := Lib.hid (Ck.stepI_ref s b HS.out hb)
      go_wp2
      go_ret
      exact ⟨ret_int (by rw [hf.out]; exact hr.out), _, rfl⟩

theorem step_int (s b : Int) (w : World) (hs : Ck.U64 s) (hb : 0 ≤ b ∧ b < 256) :
    Calls Try.prog 23 #[.int .u64 s, .int .u8 b] w fun e w' => e = .returned (.int .u64 (Ck.stepI s b)) ∧ ∃ n, w' = w.drewN n := by
  obtain ⟨S, rfl⟩ := Int.eq_ofNat_of_zero_le hs.1
  obtain ⟨B, rfl⟩ := Int.eq_ofNat_of_zero_le hb.1
  exact step_any S B w (by have := hs.2; omega) (by omega)

set_option maxRecDepth 100000 in
theorem more_any (s : Int) (A : Option Addr) (l : List Int) (cap : Nat) (w : World) (hr : Rd w A (l.map (Value.int .u8))) (hl : l.length ≤ maxLen) (hb : Ck.Bts l) (hs : Ck.U64 s) :
    Calls Try.prog 13 #[.int .u64 s, .slice A l.length cap] w fun e w' => e = .returned (.int .u64 (Ck.moreI s l)) ∧ ∃ n, w' = w.drewN n := by
  unfold maxLen at hl
  have HR := Lib.hid hr
  have HB := Lib.hid hb
  have HS := Lib.hid hs
  clear hr hb hs
  go_enter Try.func13, Try.ntmps13
  go_wp2
  go_loopw [0, 5] (fun t i wr => ∃ k : Nat, k ≤ l.length ∧ i = .int .i64 k ∧ t = .int .u64 (Ck.moreI s (l.take k)) ∧ ∃ n, wr = w.drewN n) (fun _ i _ => l.length - (intOf i).toNat)
  case atStart => exact ⟨0, Nat.zero_le _, rfl, rfl, 0, rfl⟩
  case round =>
    obtain ⟨k, hk, rfl, rfl, n, rfl⟩ := hrel
    by_cases hlt : k < l.length
    · obtain ⟨ad, hA, hc⟩ := HR.out k (.int .u8 l[k]) (by simp [hlt])
      subst hA
      have HT := Lib.hid (Ck.moreI_take (s := s) hlt)
      have H1 := Lib.hid (Ck.moreI_bd (l.take k) s HS.out)
      have H2 := Lib.hid (HB.out l[k] (List.getElem_mem hlt))
      go_wp2_with (go_at_call 23; refine (step_int _ _ _ H1.out H2.out).mono ?_; rintro e w' ⟨rfl, n', rfl⟩)
      go_roundw
      case rel => exact ⟨k + 1, by omega, by go_num, by rw [HT.out], _, rfl⟩
      case measure => simp [intOf]; omega
    · go_wp2
      go_ret
      exact ⟨ret_int (by rw [List.take_of_length_le (by omega)]), _, rfl⟩

theorem of_any (A : Option Addr) (l : List Int) (cap : Nat) (w : World) (hr : Rd w A (l.map (Value.int .u8))) (hl : l.length ≤ maxLen) (hb : Ck.Bts l) :
    Calls Try.prog 11 #[.slice A l.length cap] w fun e w' => e = .returned (.int .u64 (Ck.moreI Ck.init l)) ∧ ∃ n, w' = w.drewN n := by
  have h := more_any 14695981039346656037 A l cap w hr hl hb (by unfold Ck.U64; omega)
  have H := Lib.hid h; clear h
  go_enter Try.func11, Try.ntmps11
  go_wp2_with (go_at_call 13; refine H.out.mono ?_; rintro e w' ⟨rfl, n, rfl⟩)
  go_ret
  exact ⟨rfl, _, rfl⟩

theorem slU8 : SlT Try.prog 23 5 1 1 := SlT.of (by kernel_rfl) (by kernel_rfl) (by omega)

theorem bytes_any (n : Int) (w : World) (hn : Ck.U64 n) :
    Calls Try.prog 25 #[.int .u64 n] w fun e w' => ∃ A c, e = .returned (.slice A 8 c) ∧ w'.ownsRow w.heap.size 5 1 (.slice A 8 c) 8 ((Ck.bytesI n).map (Value.int .u8)) ∧ Below w.heap.size w w' := by
  have HN := Lib.hid hn
  clear hn
  go_enter Try.func25, Try.ntmps25
  go_wp2
  go_loopw [0, 3, 4] (fun t v i wr => ∃ k : Nat, k ≤ 8 ∧ i = .int .i64 k ∧ t = .int .u64 (n / 2 ^ (8 * k)) ∧ wr.ownsRow w.heap.size 5 1 v k (((Ck.bytesI n).take k).map (Value.int .u8)) ∧ Below w.heap.size w wr) (fun _ _ i _ => 8 - (intOf i).toNat)
  case atStart => exact ⟨0, Nat.zero_le _, rfl, by simp, World.ownsRow_nil _ _ _ _, Below.refl _ _⟩
  case round =>
    obtain ⟨k, hk, rfl, rfl, hown, hbel⟩ := hrel
    by_cases hlt : k < 8
    · have hsz := hbel.size
      have HO := Lib.hid hown
      clear hown
      have hbd : k + 1 ≤ maxLen ∧ (k + 1) * 1 ≤ 140737488355328 := by unfold maxLen; omega
      have HB := Lib.hid hbd
      have HS := Lib.hid hsz
      clear hbd hsz
      have hn0 : 0 ≤ n / 2 ^ (8 * k) := Int.ediv_nonneg HN.out.1 (Int.le_of_lt (Int.pow_pos (by omega)))
      have HE := Lib.hid (congrArg (Value.int .u64) (Ck.quo256 n k HN.out))
      go_wp2_with (at_builtin; refine wpList_app _ _ rfl rfl slU8 (HO.out.alloc _) rfl (Rd.one _ _ _) rfl rfl oneCell_one HB.out (le_alloc HS.out _) rfl rfl ?_; intro A1 c1 w1 hown1 hbel1 _ _)
      go_roundw
      case rel =>
        refine ⟨k + 1, by omega, by go_num, HE.out, ?_, ?_⟩
        · rw [List.take_succ_eq_append_getElem (by rw [Ck.bytesI_length]; exact hlt), List.map_append]
          simpa [Ck.bytesI, Ck.byteI] using hown1
        · exact (hbel.alloc HS.out _).trans hbel1
      case measure => simp [intOf]; omega
    · go_wp2
      go_ret
      obtain ⟨A, c, rfl⟩ := own_form hown
      obtain rfl : k = 8 := by omega
      exact ⟨_, _, rfl, by rw [List.take_of_length_le (by simp [Ck.bytesI_length])] at hown; exact hown, hbel⟩

set_option maxRecDepth 100000 in
theorem link_any (prev kind : Int) (A : Option Addr) (l : List Int) (cap : Nat) (w : World) (hr : Rd w A (l.map (Value.int .u8))) (hl : l.length ≤ 100000) (hp : Ck.U64 prev) (hk : 0 ≤ kind ∧ kind < 256) (hb : Ck.Bts l) :
    Calls Try.prog 19 #[.int .u64 prev, .int .u8 kind, .slice A l.length cap] w fun e w' => e = .returned (.int .u64 (Ck.recI prev kind l)) ∧ Below w.heap.size w w' := by
  have hw : IntKind.u64.wrap (l.length : Int) = (l.length : Int) := by rw [IntKind.wrap_u64]; omega
  have HR := Lib.hid hr
  have HL := Lib.hid hl
  have HP := Lib.hid hp
  have HK := Lib.hid hk
  have HBT := Lib.hid hb
  clear hr hl hp hk hb
  go_enter Try.func19, Try.ntmps19
  go_wp2_with fail
  refine (bytes_any _ _ HP.out).mono ?_
  rintro e w1 ⟨A1, c1, rfl, hown1, hbel1⟩
  have HO1 := Lib.hid hown1
  have HB1 := Lib.hid hbel1
  clear hown1 hbel1
  go_wp2_with (at_builtin; refine wpList_app _ _ rfl rfl slU8 (HO1.out.alloc _) rfl (Rd.one _ _ _) rfl rfl oneCell_one (by unfold maxLen; omega) (le_alloc HB1.out.size _) rfl rfl ?_; intro A2 c2 w2 hown2 hbel2 _ _)
  have hb02 := Lib.hid ((HB1.out.alloc HB1.out.size _).trans hbel2)
  have HO2 := Lib.hid hown2
  clear hown2 hbel2
  refine (bytes_any _ _ (by unfold Ck.U64; have := HL.out; omega)).mono ?_
  rintro e w3 ⟨A3, c3, rfl, hown3, hbel3⟩
  have hb03 := Lib.hid (hb02.out.trans (hbel3.mono hb02.out.size))
  have HO23 := Lib.hid (own_below HO2.out hbel3 (Nat.le_refl _))
  have HR3 := Lib.hid (Rd.of_own hown3)
  clear hown3 hbel3
  have hl5 : (l.map (Value.int .u8)).length = l.length * 1 := by simp
  have hm5 : 8 + 1 + 8 + l.length ≤ maxLen ∧ (8 + 1 + 8 + l.length) * 1 ≤ 140737488355328 := by unfold maxLen; have := HL.out; omega
  have HL5 := Lib.hid hl5
  have HM5 := Lib.hid hm5
  clear hl5 hm5
  go_wp2_with (first
    | (at_builtin; refine wpList_app _ _ rfl rfl slU8 HO23.out rfl HR3.out rfl (by simp [Ck.bytesI_length]) oneCell_ints (by unfold maxLen; omega) hb03.out.size rfl rfl ?_; intro A4 c4 w4 hown4 hbel4 _ _
       have hb04 := Lib.hid (hb03.out.trans hbel4)
       have HO4 := Lib.hid hown4
       have HR4 := Lib.hid (HR.out.low hb04.out)
       clear hown4 hbel4)
    | (at_builtin; refine wpList_app _ _ rfl rfl slU8 HO4.out rfl HR4.out rfl HL5.out oneCell_ints HM5.out hb04.out.size rfl rfl ?_; intro A5 c5 w5 hown5 hbel5 _ _))
  have hb05 := Lib.hid (hb04.out.trans hbel5)
  have e : List.map (Value.int IntKind.u8) (Ck.bytesI prev) ++ [Value.int IntKind.u8 kind] ++ List.map (Value.int IntKind.u8) (Ck.bytesI ↑l.length) ++ List.map (Value.int IntKind.u8) l = List.map (Value.int .u8) (Ck.bytesI prev ++ [kind] ++ Ck.bytesI ↑l.length ++ l) := by simp
  have e2 : 8 + 1 + 8 + l.length = (Ck.bytesI prev ++ [kind] ++ Ck.bytesI ↑l.length ++ l).length := by simp [Ck.bytesI_length]; omega
  have HR5 := Lib.hid (e ▸ Rd.of_own hown5)
  have HS5 := Lib.hid (hown5)
  clear hown5 hbel5
  have ho := of_any A5 _ c5 w5 HR5.out (by rw [← e2]; unfold maxLen; have := HL.out; omega) (((Ck.Bts.append (Ck.Bts.append (Ck.Bts.append (Ck.bytesI_bts _) (fun x hx => by simp at hx; subst hx; exact HK.out)) (Ck.bytesI_bts _))) HBT.out))
  rw [← e2] at ho
  have HOF := Lib.hid ho
  clear ho e e2
  go_wp2_with (go_at_call 11; refine HOF.out.mono ?_; rintro e w' ⟨rfl, n, rfl⟩)
  go_ret
  exact ⟨ret_int (Ck.recI_eq _ _ _).symm, hb05.out.trans ⟨rfl, rfl, rfl, Nat.le_refl _, fun _ _ => rfl⟩⟩

set_option maxRecDepth 100000 in
theorem words_any (A : Option Addr) (l : List Int) (cap : Nat) (w : World) (hr : Rd w A (l.map (Value.int .i64))) (hl : l.length ≤ 100000) :
    Calls Try.prog 21 #[.slice A l.length cap] w fun e w' => e = .returned (.int .u64 (Ck.intsI l)) ∧ Below w.heap.size w w' := by
  have HR := Lib.hid hr
  clear hr
  go_enter Try.func21, Try.ntmps21
  go_wp2
  go_loopw [3, 4] (fun v i wr => ∃ (k n : Nat) (B : Option Addr) (c : Nat), k ≤ l.length ∧ n = 8 * k ∧ i = .int .i64 k ∧ v = .slice B n c ∧ wr.ownsRow w.heap.size 5 1 (.slice B n c) n ((Ck.wordsI (l.take k)).map (Value.int .u8)) ∧ Below w.heap.size w wr) (fun _ i _ => l.length - (intOf i).toNat)
  case atStart => exact ⟨0, 0, none, 0, Nat.zero_le _, rfl, rfl, rfl, World.ownsRow_nil _ _ _ _, Below.refl _ _⟩
  case round =>
    obtain ⟨k, n, B, c, hk, hn, rfl, rfl, hown, hbel⟩ := hrel
    have HN := Lib.hid hn
    have HO := Lib.hid hown
    have HB := Lib.hid hbel
    clear hn hown hbel
    by_cases hlt : k < l.length
    · obtain ⟨ad, hA, hc⟩ := (HR.out.low HB.out) k (.int .i64 l[k]) (by simp [hlt])
      subst hA
      go_wp2_with fail
      refine (bytes_any _ _ (Ck.wrap_U64 _)).mono ?_
      rintro e w3 ⟨A3, c3, rfl, hown3, hbel3⟩
      have hb03 := Lib.hid (HB.out.trans (hbel3.mono HB.out.size))
      have HO23 := Lib.hid (own_below HO.out hbel3 (Nat.le_refl _))
      have HR3 := Lib.hid (Rd.of_own hown3)
      clear hown3 hbel3
      go_wp2_with (at_builtin; refine wpList_app _ _ rfl rfl slU8 HO23.out rfl HR3.out rfl (by simp [Ck.bytesI_length]) oneCell_ints (by unfold maxLen; have := HN.out; omega) hb03.out.size rfl rfl ?_; intro A4 c4 w4 hown4 hbel4 _ _)
      go_roundw
      case rel => 
        refine ⟨k + 1, n + 8, A4, c4, by omega, by have := HN.out; omega, by go_num, rfl, ?_, hb03.out.trans hbel4⟩
        rw [Ck.wordsI_take hlt, List.map_append]; exact hown4
      case measure => simp [intOf]; omega
    · obtain rfl : k = l.length := by omega
      have e2 : n = (Ck.wordsI l).length := by rw [Ck.wordsI_length]; exact HN.out
      have HR5 := Rd.of_own HO.out
      rw [List.take_length] at HR5
      have ho := of_any B _ c wr HR5 (by rw [← e2, HN.out]; unfold maxLen; omega) (Ck.wordsI_bts _)
      rw [← e2] at ho
      have HOF := Lib.hid ho
      clear ho e2 HR5
      go_wp2_with (go_at_call 11; refine HOF.out.mono ?_; rintro e w' ⟨rfl, n, rfl⟩)
      go_ret
      exact ⟨ret_int (Ck.intsI_eq _).symm, HB.out.trans ⟨rfl, rfl, rfl, Nat.le_refl _, fun _ _ => rfl⟩⟩

set_option maxRecDepth 100000 in
theorem text_any (n : Nat) (w : World) (hn : n < 18446744073709551616) :
    Calls Try.prog 17 #[.int .u64 n] w fun e w' => e = .returned (.string ⟨(Ck.fmt n).toArray⟩) ∧ w = w' := by
  have HN := Lib.hid hn
  clear hn
  go_enter Try.func17, Try.ntmps17
  go_wp2
  go_loop [0, 3, 4, 5] (fun t v i _ => ∃ (k m : Nat) (s : ByteArray), Ck.Txr n k m s ∧ t = .int .u64 m ∧ i = .int .i64 k ∧ v = .string s) (fun _ _ i _ => 16 - (intOf i).toNat)
  case atStart => exact ⟨0, n, _, ⟨by omega, by simp, rfl⟩, rfl, rfl, rfl⟩
  case round =>
    obtain ⟨k, m, s, hs, rfl, rfl, rfl⟩ := hrel
    have hbd := hs.bd HN.out
    have HM := Lib.hid hbd.1
    have hsz := hbd.2
    clear hbd
    have hk := hs.1
    by_cases hlt : k < 16
    · have hsl : ∀ W : World, (Instr.slice 9 (.string { data := #[48, 49, 50, 51, 52, 53, 54, 55, 56, 57, 97, 98, 99, 100, 101, 102] }) (some (.int .u64 ((m : Int) % 16))) (some (.int .u64 ((m : Int) % 16 + 1))) none).run Try.prog W = .ok (.string ⟨#[Ck.hexd (m % 16)]⟩) W := fun W => by
        change (Instr.slice 9 (.string Ck.hexs) (some (.int .u64 ((m : Int) % 16))) (some (.int .u64 ((m : Int) % 16 + 1))) none).run Try.prog W = _
        rw [run_slice_string W _ Ck.hexs _ _ _ _ Try.underlying9 (by omega) (by omega) (by show _ ≤ ((16 : Nat) : Int); omega)]
        rw [show ((m : Int) % 16).toNat = m % 16 by omega, show ((m : Int) % 16 + 1).toNat = m % 16 + 1 by omega, Ck.hexs_cut _ (by omega)]
      have hadd : ∀ W : World, (Op.stringOp .add ⟨#[Ck.hexd (m % 16)]⟩ s).run Try.prog W = .ok (.string (⟨#[Ck.hexd (m % 16)]⟩ ++ s)) W := fun W => run_string_add_sum W _ _ (by show 1 + s.size ≤ _; omega)
      have HQ := Lib.hid (show IntKind.u64.wrap ((m : Int) / 16) = ((m / 16 : Nat) : Int) by
        have := HM.out
        rw [IntKind.wrap_u64]; omega)
      have HNX := Lib.hid (hs.next hlt)
      clear hs
      go_wp2
      go_round
      case rel => exact ⟨k + 1, _, _, HNX.out, by rw [HQ.out], by go_num, rfl⟩
      case measure => simp [intOf]; omega
    · have HF := Lib.hid hs.2.2
      clear hs
      go_wp2
      go_ret
      have := HF.out
      rw [show k = 16 by omega, Ck.txt_fmt] at this
      exact ⟨by rw [this]; rfl, rfl⟩

set_option maxRecDepth 100000 in
theorem parse_any (s : ByteArray) (w : World) (hs : s.size ≤ maxLen) :
    Calls Try.prog 15 #[.string s] w fun e w' => e = .returned (.tuple #[.int .u64 (Ck.parseN s), .int .i64 (Ck.parseE s)]) ∧ w = w' := by
  by_cases h16 : s.size = 16
  · have hne : ((s.size : Int) != 16) = false := by rw [h16]; rfl
    have h17 : ((s.size : Int)) = 16 := by omega
    clear hs
    have H16 := Lib.hid h16
    clear h16
    go_enter Try.func15, Try.ntmps15
    go_wp2
    clear hne
    have HS := Lib.hid h17
    clear h17
    go_loop [4, 5, 6, 12] (fun t _ _ i => ∃ (k m : Nat), Ck.Prs s k m ∧ t = .int .u64 m ∧ i = .int .i64 k) (fun _ _ _ i => 16 - (intOf i).toNat)
    case atStart => exact ⟨0, 0, Ck.Prs.start s H16.out, rfl, rfl⟩
    case round =>
      obtain ⟨k, m, hp, rfl, rfl⟩ := hrel
      have hk := hp.1
      by_cases hlt : k < 16
      · have hks : k < s.size := by have := H16.out; omega
        have hc := s[k].toNat_lt
        by_cases h1 : 48 ≤ s[k].toNat ∧ s[k].toNat ≤ 57
        · have HP := Lib.hid (hp.step hks (Ck.hexv_d h1))
          obtain ⟨h1a, h1b⟩ := h1
          clear hp
          go_wp2
          go_round
          case rel => exact ⟨k + 1, _, HP.out, congrArg (Value.int .u64) (Ck.or_next' m _ (by omega) _ (by omega)), by go_num⟩
          case measure => simp [intOf]; omega
        · by_cases h2 : 97 ≤ s[k].toNat ∧ s[k].toNat ≤ 102
          · have HP := Lib.hid (hp.step hks (Ck.hexv_l h2))
            obtain ⟨h2a, h2b⟩ := h2
            clear hp h1
            go_wp2
            go_round
            case rel => exact ⟨k + 1, _, HP.out, congrArg (Value.int .u64) (Ck.or_next' m _ (by omega) _ (by omega)), by go_num⟩
            case measure => simp [intOf]; omega
          · have HP := Lib.hid (Ck.parse_none (hp.bad hks (Ck.hexv_n h1 h2)))
            have H1 := Lib.hid h1
            have H2 := Lib.hid h2
            clear hp h1 h2
            go_wp2
            all_goals first | (exfalso; have := H1.out; have := H2.out; omega) | (go_ret2; exact ⟨by rw [HP.out.1, HP.out.2]; rfl, rfl⟩)
      · have HP := Lib.hid (Ck.parse_some (hp.fin hlt))
        clear hp
        go_wp2
        go_ret2
        exact ⟨by rw [HP.out.1, HP.out.2]; rfl, rfl⟩
  · have hne : ((s.size : Int) != 16) = true := by rw [bne_iff_ne]; omega
    have HP := Lib.hid (Ck.parse_none (show Ck.parse s = none by unfold Ck.parse; rw [if_neg h16]))
    clear h16
    go_enter Try.func15, Try.ntmps15
    go_wp2
    go_ret2
    exact ⟨by rw [HP.out.1, HP.out.2]; rfl, rfl⟩

set_option maxRecDepth 100000 in
theorem refParse_any (s : ByteArray) (w : World) (hs : s.size ≤ maxLen) :
    Calls Try.prog 16 #[.string s] w fun e w' => e = .returned (.tuple #[.int .u64 (Ck.parseN s), .int .i64 (Ck.parseE s)]) ∧ ∃ n, w' = w.drewN n := by
  by_cases h16 : s.size = 16
  · have hne : ((s.size : Int) != 16) = false := by rw [h16]; rfl
    clear hs
    have H16 := Lib.hid h16
    clear h16
    go_enter Try.func16, Try.ntmps16
    go_wp2
    clear hne
    go_loopw [4, 5, 6, 7] (fun t i _ _ wr => ∃ (k m : Nat), Ck.Prs s k m ∧ t = .int .u64 m ∧ i = .int .i64 k ∧ ∃ n, wr = w.drewN n) (fun _ i _ _ _ => 16 - (intOf i).toNat)
    case atStart => exact ⟨0, 0, Ck.Prs.start s H16.out, rfl, rfl, 0, rfl⟩
    case round =>
      obtain ⟨k, m, hp, rfl, rfl, n, rfl⟩ := hrel
      have hk := hp.1
      by_cases hlt : k < 16
      · have hks : k < s.size := by have := H16.out; omega
        have hsl1 : ∀ W : World, (Instr.slice 9 (.string s) (some (.int .i64 (k : Int))) (some (.int .i64 ((k : Int) + 1))) none).run Try.prog W = .ok (.string ⟨#[s[k]]⟩) W := fun W => by
          rw [run_slice_string W _ s _ _ _ _ Try.underlying9 (by omega) (by omega) (by omega)]
          rw [show ((k : Int)).toNat = k by omega, show ((k : Int) + 1).toNat = k + 1 by omega, Ck.extract_one s k hks]
        have HC := Lib.hid s[k].toNat_lt
        obtain ⟨c, hc⟩ : ∃ c, s[k] = c := ⟨_, rfl⟩
        rw [hc] at hsl1
        have HCC := Lib.hid hc
        clear hc
        have HP := Lib.hid hp
        clear hp
        go_wp2
        go_loopw [4, 6, 7] (fun t f d wr => ∃ (j p : Nat) (b : Bool), Ck.Inn c.toNat m j p b ∧ t = .int .u64 p ∧ f = .bool b ∧ d = .int .u64 j ∧ ∃ n, wr = w.drewN n) (fun _ _ d _ => 16 - (intOf d).toNat)
        case atStart => exact ⟨0, m, false, Ck.Inn.start c.toNat_lt, rfl, rfl, rfl, n, rfl⟩
        case round =>
          obtain ⟨j, p, b, hi, rfl, rfl, rfl, n', rfl⟩ := hrel
          by_cases hj : j < 16
          · have hsl2 : ∀ W : World, (Instr.slice 9 (.string { data := #[48, 49, 50, 51, 52, 53, 54, 55, 56, 57, 97, 98, 99, 100, 101, 102] }) (some (.int .u64 (j : Int))) (some (.int .u64 ((j : Int) + 1))) none).run Try.prog W = .ok (.string ⟨#[Ck.hexd j]⟩) W := fun W => by
              change (Instr.slice 9 (.string Ck.hexs) (some (.int .u64 (j : Int))) (some (.int .u64 ((j : Int) + 1))) none).run Try.prog W = _
              rw [run_slice_string W _ Ck.hexs _ _ _ _ Try.underlying9 (by omega) (by omega) (by show _ ≤ ((16 : Nat) : Int); omega)]
              rw [show ((j : Int)).toNat = j by omega, show ((j : Int) + 1).toNat = j + 1 by omega, Ck.hexs_cut _ (by omega)]
            have hq := Ck.eq_dig c j hj
            by_cases hv : Ck.hexv c.toNat = some j
            · rw [decide_eq_true hv] at hq
              obtain ⟨rfl, hi2⟩ := hi.hit hj hv
              have HI := Lib.hid hi2
              clear hi hi2 hv
              go_wp2
              go_quiet (fail)
              go_wp2
              go_roundw
              case rel => exact ⟨j + 1, _, true, HI.out, congrArg (Value.int .u64) (Ck.ref_next _ _ hj), rfl, by go_num, _, rfl⟩
              case measure => simp [intOf]; omega
            · rw [decide_eq_false hv] at hq
              have HI := Lib.hid (hi.miss hj hv)
              clear hi hv
              go_wp2
              go_quiet (fail)
              go_wp2
              go_roundw
              case rel => exact ⟨j + 1, _, b, HI.out, rfl, rfl, by go_num, _, rfl⟩
              case measure => simp [intOf]; omega
          · cases b with
            | true =>
              obtain ⟨v, hv, rfl⟩ := hi.yes
              have HN := Lib.hid (HP.out.step hks (by rw [HCC.out]; exact hv))
              clear hi hv
              go_wp2
              go_roundw
              case rel => exact ⟨k + 1, _, HN.out, rfl, by go_num, _, rfl⟩
              case measure => simp [intOf]; omega
            | false =>
              have HN := Lib.hid (Ck.parse_none (HP.out.bad hks (by rw [HCC.out]; exact hi.no hj)))
              clear hi
              go_wp2
              go_ret2
              exact ⟨by rw [HN.out.1, HN.out.2]; rfl, _, rfl⟩
      · have HP := Lib.hid (Ck.parse_some (hp.fin hlt))
        clear hp
        go_wp2
        go_ret2
        exact ⟨by rw [HP.out.1, HP.out.2]; rfl, _, rfl⟩
  · have hne : ((s.size : Int) != 16) = true := by rw [bne_iff_ne]; omega
    have HP := Lib.hid (Ck.parse_none (show Ck.parse s = none by unfold Ck.parse; rw [if_neg h16]))
    clear h16
    go_enter Try.func16, Try.ntmps16
    go_wp2
    go_ret2
    exact ⟨by rw [HP.out.1, HP.out.2]; rfl, 0, rfl⟩
end Go.Proofs.Ytmabbdkckdpeoab
