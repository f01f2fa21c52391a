/- The walks of the laws of layer 4. -/
import Derived.Test.YtmabbdkckdpeoabCkT
import Derived.Test.YtmabbdkckdpeoabCkWalks
import Derived.Test.YtmabbdkckdpeoabCkInj
namespace Go.Proofs.Ytmabbdkckdpeoab
open Go.RowKit

theorem parse_init : Ck.parse ⟨#[99, 98, 102, 50, 57, 99, 101, 52, 56, 52, 50, 50, 50, 51, 50, 53]⟩ = some 14695981039346656037 := by decide +kernel
theorem fmt_init : Ck.fmt 14695981039346656037 = [99, 98, 102, 50, 57, 99, 101, 52, 56, 52, 50, 50, 50, 51, 50, 53] := by decide +kernel

set_option maxRecDepth 100000 in
theorem alive_any (w : World) : Calls Try.prog 9 #[] w fun e w' => e = .returned (.bool true) ∧ Below w.heap.size w w' := by
  have hp := Ck.parse_some parse_init
  have hpa := parse_any ⟨#[99, 98, 102, 50, 57, 99, 101, 52, 56, 52, 50, 50, 50, 51, 50, 53]⟩ w (by unfold maxLen; show 16 ≤ _; omega)
  rw [hp.1, hp.2] at hpa
  have HPA := Lib.hid hpa
  have hf : ∀ W, Calls Try.prog 14 #[.int .u64 (14695981039346656037 : Int)] W fun e w' => e = .returned (.string ⟨#[99, 98, 102, 50, 57, 99, 101, 52, 56, 52, 50, 50, 50, 51, 50, 53]⟩) ∧ Below W.heap.size W w' := fun W => by
    have h := format_any 14695981039346656037 W (by omega)
    rw [fmt_init] at h
    exact h
  have HF := Lib.hid hf
  have hs := fun W => sum_any none [] 0 W (Rd.nil _ _) (by unfold maxLen; simp)
  have hsi := fun W => sumInts_any none [] 0 W (Rd.nil _ _) (by unfold maxLen; simp)
  rw [Ck.moreI_nil] at hs
  rw [Ck.intsI_nil] at hsi
  have HS := Lib.hid hs
  have HSI := Lib.hid hsi
  clear hpa hf hs hsi hp
  go_enter Try.func9, Try.ntmps9
  go_wp2_with (first
    | (go_at_call 15; refine HPA.out.mono ?_; rintro e w' ⟨rfl, rfl⟩)
    | (go_at_call 10; refine (HS.out _).mono ?_; rintro e w' ⟨rfl, rfl⟩)
    | (go_at_call 20; refine (HSI.out _).mono ?_; rintro e w' ⟨rfl, rfl⟩)
    | (go_at_call 14; refine (HF.out _).mono ?_; rintro e w1 ⟨rfl, hb1⟩))
  go_ret
  exact ⟨rfl, hb1⟩

set_option maxRecDepth 100000 in
theorem sums_walk (s : Int) (A : Option Addr) (l : List Int) (cap : Nat) (w : World) (hs : Ck.U64 s) (hr : Rd w A (l.map (Value.int .u8))) (hb : Ck.Bts l) (hl : l.length ≤ maxLen) :
    Calls Try.prog 3 #[.int .u64 s, .slice A l.length cap] w fun e w' => e = .returned (.bool true) ∧ Below w.heap.size w w' := by
  have HR := Lib.hid hr
  have HB := Lib.hid hb
  have HL := Lib.hid hl
  have HS := Lib.hid hs
  unfold maxLen at hl
  clear hr hb hs
  by_cases hc : l.length ≤ 2000
  · go_enter Try.func3, Try.ntmps3
    go_wp2_with fail
    refine (alive_any _).mono ?_
    rintro e w1 ⟨rfl, hb1⟩
    have HB1 := Lib.hid hb1
    have HR1 := Lib.hid (HR.out.low hb1)
    clear hb1
    go_wp2_with (first
      | (go_at_call 10; refine (sum_any _ _ _ _ HR1.out HL.out).mono ?_; rintro e w' ⟨rfl, rfl⟩)
      | (go_at_call 11; refine (of_any _ _ _ _ HR1.out HL.out HB.out).mono ?_; rintro e w' ⟨rfl, n1, rfl⟩)
      | (go_at_call 12; refine (update_any _ _ _ _ _ (HR1.out.drewN _) HL.out).mono ?_; rintro e w' ⟨rfl, rfl⟩)
      | (go_at_call 13; refine (more_any _ _ _ _ _ (HR1.out.drewN _) HL.out HB.out HS.out).mono ?_; rintro e w' ⟨rfl, n2, rfl⟩))
    go_ret
    exact ⟨ret_bool (by simp), HB1.out.trans (below_drewN _ _ _)⟩
  · go_enter Try.func3, Try.ntmps3
    go_wp2_with (go_at_call 9; refine (alive_any _).mono ?_; rintro e w1 ⟨rfl, hb1⟩)
    go_ret
    exact ⟨rfl, hb1⟩

set_option maxRecDepth 100000 in
theorem formats_walk (n : Int) (s : ByteArray) (w : World) (hn : Ck.U64 n) (hl : s.size ≤ maxLen) :
    Calls Try.prog 4 #[.int .u64 n, .string s] w fun e w' => e = .returned (.bool true) ∧ Below w.heap.size w w' := by
  have HL := Lib.hid hl
  unfold maxLen at hl
  obtain ⟨N, rfl⟩ := Int.eq_ofNat_of_zero_le hn.1
  have HN := Lib.hid (show N < 18446744073709551616 by have := hn.2; omega)
  clear hn
  have HP := Lib.hid (Ck.parse_some (Ck.parse_fmt N HN.out))
  by_cases hc : s.size ≤ 100
  · go_enter Try.func4, Try.ntmps4
    go_wp2_with fail
    refine (alive_any _).mono ?_
    rintro e w1 ⟨rfl, hb1⟩
    have HB1 := Lib.hid hb1
    clear hb1
    go_wp2_with fail
    refine (format_any N _ HN.out).mono ?_
    rintro e w2 ⟨rfl, hb2⟩
    have HB2 := Lib.hid (HB1.out.trans (hb2.mono HB1.out.size))
    clear hb2
    go_wp2_with fail
    refine (parse_any _ _ (by unfold maxLen; show (Ck.fmt N).toArray.size ≤ _; simp [Ck.fmt])).mono ?_
    rw [HP.out.1, HP.out.2]
    rintro e w' ⟨rfl, rfl⟩
    go_wp2_with fail
    refine (parse_any _ _ HL.out).mono ?_
    rintro e w' ⟨rfl, rfl⟩
    go_wp2_with (first
      | (go_at_call 16; refine (refParse_any _ _ HL.out).mono ?_; rintro e w' ⟨rfl, n1, rfl⟩)
      | (go_at_call 17; refine (text_any N _ HN.out).mono ?_; rintro e w' ⟨rfl, rfl⟩))
    go_ret
    exact ⟨ret_bool (by simp), HB2.out.trans (below_drewN _ _ _)⟩
  · go_enter Try.func4, Try.ntmps4
    go_wp2_with (go_at_call 9; refine (alive_any _).mono ?_; rintro e w1 ⟨rfl, hb1⟩)
    go_ret
    exact ⟨rfl, hb1⟩

set_option maxRecDepth 100000 in
theorem injective_walk (x y : Int) (A : Option Addr) (l : List Int) (cap : Nat) (w : World) (hx : Ck.U64 x) (hy : Ck.U64 y) (hr : Rd w A (l.map (Value.int .u8))) (hb : Ck.Bts l) (hl : l.length ≤ maxLen) :
    Calls Try.prog 6 #[.int .u64 x, .int .u64 y, .slice A l.length cap] w fun e w' => e = .returned (.bool true) ∧ Below w.heap.size w w' := by
  have HR := Lib.hid hr
  have HL := Lib.hid hl
  have HE := Lib.hid (show ((Ck.moreI x l == Ck.moreI y l) == (x == y)) = true by
    rw [beq_iff_eq, Bool.eq_iff_iff]; simp only [beq_iff_eq]
    exact ⟨fun h => Ck.moreI_inj l hb hx hy h, fun h => by rw [h]⟩)
  unfold maxLen at hl
  clear hr hb hx hy
  by_cases hc : l.length ≤ 1000
  · go_enter Try.func6, Try.ntmps6
    go_wp2_with fail
    refine (alive_any _).mono ?_
    rintro e w1 ⟨rfl, hb1⟩
    have HB1 := Lib.hid hb1
    have HR1 := Lib.hid (HR.out.low hb1)
    clear hb1
    go_wp2_with (go_at_call 12; refine (update_any _ _ _ _ _ HR1.out HL.out).mono ?_; rintro e w' ⟨rfl, rfl⟩)
    go_ret
    exact ⟨ret_bool HE.out, HB1.out⟩
  · go_enter Try.func6, Try.ntmps6
    go_wp2_with (go_at_call 9; refine (alive_any _).mono ?_; rintro e w1 ⟨rfl, hb1⟩)
    go_ret
    exact ⟨rfl, hb1⟩

set_option maxRecDepth 100000 in
theorem chains_walk (p : Int) (A : Option Addr) (l : List Int) (cap : Nat) (B : Option Addr) (m : List Int) (cap2 : Nat) (w : World) (hp : Ck.U64 p) (hr : Rd w A (l.map (Value.int .u8))) (hb : Ck.Bts l) (hl : l.length ≤ maxLen)
    (hm : Rd w B (m.map (Value.int .i64))) (hml : m.length ≤ maxLen) :
    Calls Try.prog 7 #[.int .u64 p, .slice A l.length cap, .slice B m.length cap2] w fun e w' => e = .returned (.bool true) ∧ Below w.heap.size w w' := by
  have HR := Lib.hid hr
  have HL := Lib.hid hl
  have HM := Lib.hid hm
  have HML := Lib.hid hml
  have HB := Lib.hid hb
  have HP := Lib.hid hp
  unfold maxLen at hl hml
  clear hr hb hp hm
  by_cases hc : l.length ≤ 2000
  · by_cases hd : m.length ≤ 200
    · go_enter Try.func7, Try.ntmps7
      go_wp2_with fail
      refine (alive_any _).mono ?_
      rintro e w1 ⟨rfl, hb1⟩
      have HB1 := Lib.hid hb1
      have HR1 := Lib.hid (HR.out.low hb1)
      have HM1 := Lib.hid (HM.out.low hb1)
      clear hb1
      go_wp2_with fail
      refine (chain_any _ _ _ _ _ _ HR1.out HL.out).mono ?_
      rintro e w' ⟨rfl, rfl⟩
      go_wp2_with fail
      refine (link_any _ _ _ _ _ _ HR1.out (by omega) HP.out (by omega) HB.out).mono ?_
      rintro e w2 ⟨rfl, hb2⟩
      have HM2 := Lib.hid (HM1.out.low hb2)
      have HB2 := Lib.hid (HB1.out.trans (hb2.mono HB1.out.size))
      clear hb2
      go_wp2_with fail
      refine (sumInts_any _ _ _ _ HM2.out HML.out).mono ?_
      rintro e w' ⟨rfl, rfl⟩
      go_wp2_with fail
      refine (words_any _ _ _ _ HM2.out (by omega)).mono ?_
      rintro e w3 ⟨rfl, hb3⟩
      have HB3 := Lib.hid (HB2.out.trans (hb3.mono HB2.out.size))
      clear hb3
      go_wp2
      go_ret
      exact ⟨ret_bool (by simp), HB3.out⟩
    · go_enter Try.func7, Try.ntmps7
      go_wp2_with (go_at_call 9; refine (alive_any _).mono ?_; rintro e w1 ⟨rfl, hb1⟩)
      go_ret
      exact ⟨rfl, hb1⟩
  · go_enter Try.func7, Try.ntmps7
    go_wp2_with (go_at_call 9; refine (alive_any _).mono ?_; rintro e w1 ⟨rfl, hb1⟩)
    go_ret
    exact ⟨rfl, hb1⟩

set_option maxRecDepth 100000 in
theorem concatenates_walk (A : Option Addr) (l : List Int) (cap : Nat) (B : Option Addr) (m : List Int) (cap2 : Nat) (w : World) (hr : Rd w A (l.map (Value.int .u8))) (hl : l.length ≤ maxLen)
    (hm : Rd w B (m.map (Value.int .u8))) (hml : m.length ≤ maxLen) :
    Calls Try.prog 5 #[.slice A l.length cap, .slice B m.length cap2] w fun e w' => e = .returned (.bool true) ∧ Below w.heap.size w w' := by
  have HR := Lib.hid hr
  have HL := Lib.hid hl
  have HM := Lib.hid hm
  have HML := Lib.hid hml
  unfold maxLen at hl hml
  clear hr hm
  by_cases hc : l.length ≤ 1000
  · by_cases hd : m.length ≤ 1000
    · go_enter Try.func5, Try.ntmps5
      go_wp2_with fail
      refine (alive_any _).mono ?_
      rintro e w1 ⟨rfl, hb1⟩
      have HB1 := Lib.hid hb1
      have HR1 := Lib.hid ((HR.out.low hb1).alloc (.cells #[] 5))
      have HO1 := Lib.hid (World.ownsRow_lit (base := w.heap.size) (e := 5) (size := 1) w1 #[] 0 hb1.size (by unfold maxLen; omega) rfl)
      have HS1 := Lib.hid (le_alloc hb1.size (.cells #[] 5))
      have HBA := Lib.hid (hb1.alloc hb1.size (.cells #[] 5))
      clear hb1
      go_wp2_with (first
        | (at_builtin; refine wpList_app l.length (l.map (.int .u8)) rfl rfl slU8 HO1.out rfl HR1.out rfl (by simp) oneCell_ints (by unfold maxLen; omega) HS1.out (by omega) rfl ?_; intro A2 c2 w2 hown2 hbel2 _ _
           have HB2 := Lib.hid (HBA.out.trans hbel2)
           have HO2 := Lib.hid hown2
           have HM2 := Lib.hid (HM.out.low HB2.out)
           clear hown2 hbel2)
        | (at_builtin; refine wpList_app _ ((l ++ m).map (.int .u8)) rfl rfl slU8 HO2.out rfl HM2.out rfl (by simp) oneCell_ints (by unfold maxLen; omega) HB2.out.size rfl (by simp) ?_; intro A3 c3 w3 hown3 hbel3 _ _
           have HB3 := Lib.hid (HB2.out.trans hbel3)
           have HR3 := Lib.hid (Rd.of_own hown3)
           have HRL := Lib.hid (HR.out.low HB3.out)
           have HRM := Lib.hid (HM.out.low HB3.out)
           have hsum := sum_any A3 (l ++ m) c3 w3 HR3.out (by unfold maxLen; rw [List.length_append]; omega)
           rw [List.length_append, Ck.moreI_append] at hsum
           have HSUM := Lib.hid hsum
           clear hown3 hbel3 hsum)
        | (go_at_call 10; (with_reducible refine (sum_any _ _ _ _ HRL.out HL.out).mono ?_); rintro e w' ⟨rfl, rfl⟩)
        | (go_at_call 10; (with_reducible refine (HSUM.out).mono ?_); rintro e w' ⟨rfl, rfl⟩)
        | (go_at_call 12; refine (update_any _ _ _ _ _ HRM.out HML.out).mono ?_; rintro e w' ⟨rfl, rfl⟩))
      go_ret
      exact ⟨ret_bool (by simp), HB3.out⟩
    · go_enter Try.func5, Try.ntmps5
      go_wp2_with (go_at_call 9; refine (alive_any _).mono ?_; rintro e w1 ⟨rfl, hb1⟩)
      go_ret
      exact ⟨rfl, hb1⟩
  · go_enter Try.func5, Try.ntmps5
    go_wp2_with (go_at_call 9; refine (alive_any _).mono ?_; rintro e w1 ⟨rfl, hb1⟩)
    go_ret
    exact ⟨rfl, hb1⟩

set_option maxRecDepth 100000 in
theorem detects_walk (A : Option Addr) (l : List Int) (cap : Nat) (a b : Int) (w : World) (hr : Rd w A (l.map (Value.int .u8))) (hb : Ck.Bts l) (hl : l.length ≤ maxLen) (ha : 0 ≤ a ∧ a < 65536) (hbb : 0 ≤ b ∧ b < 256) :
    Calls Try.prog 8 #[.slice A l.length cap, .int .u16 a, .int .u8 b] w fun e w' => e = .returned (.bool true) ∧ Below w.heap.size w w' := by
  have HR := Lib.hid hr
  have HL := Lib.hid hl
  have HB := Lib.hid hb
  have HBB := Lib.hid hbb
  unfold maxLen at hl
  clear hr hb
  by_cases hc : l.length ≤ 1000
  · by_cases h0 : l.length = 0
    · have h0' : ((l.length : Int) == 0) = true := by rw [beq_iff_eq]; omega
      have H0 := Lib.hid h0
      clear h0
      go_enter Try.func8, Try.ntmps8
      go_wp2_with (go_at_call 9; refine (alive_any _).mono ?_; rintro e w1 ⟨rfl, hb1⟩)
      go_ret
      exact ⟨rfl, hb1⟩
    · have h0' : ((l.length : Int) == 0) = false := by rw [beq_eq_false_iff_ne]; omega
      by_cases hb0 : b = 0
      · have hb0' : (b == 0) = true := by rw [beq_iff_eq]; exact hb0
        have H0 := Lib.hid h0
        clear hb0 h0
        go_enter Try.func8, Try.ntmps8
        go_wp2_with (go_at_call 9; refine (alive_any _).mono ?_; rintro e w1 ⟨rfl, hb1⟩)
        go_ret
        exact ⟨rfl, hb1⟩
      · have hb0' : (b == 0) = false := by rw [beq_eq_false_iff_ne]; exact hb0
        obtain ⟨a', rfl⟩ := Int.eq_ofNat_of_zero_le ha.1
        obtain ⟨k, hk⟩ : ∃ k, a' % l.length = k := ⟨_, rfl⟩
        have hkl : k < l.length := by rw [← hk]; exact Nat.mod_lt _ (by omega)
        have hki : (a' : Int) % (l.length : Int) = (k : Int) := by rw [← Int.natCast_emod, hk]
        have ha2 : (a' : Int) ≤ 65535 := by have := ha.2; omega
        have hl1 : 1 ≤ (l.length : Int) := by omega
        have hne := Lib.hid (Ck.xor8_ne l[k] b (HB.out _ (List.getElem_mem hkl)) HBB.out hb0)
        have HKL := Lib.hid hkl
        have H0 := Lib.hid h0
        clear hk ha hbb hb0 h0
        go_enter Try.func8, Try.ntmps8
        go_wp2_with fail
        refine (alive_any _).mono ?_
        rintro e w1 ⟨rfl, hb1⟩
        have HR1 := Lib.hid ((HR.out.low hb1).alloc (.cells #[] 5))
        have HO1 := Lib.hid (World.ownsRow_lit (base := w.heap.size) (e := 5) (size := 1) w1 #[] 0 hb1.size (by unfold maxLen; omega) rfl)
        have HS1 := Lib.hid (le_alloc hb1.size (.cells #[] 5))
        have HBA := Lib.hid (hb1.alloc hb1.size (.cells #[] 5))
        clear hb1
        go_wp2_with (first
          | (at_builtin; refine wpList_app l.length (l.map (.int .u8)) rfl rfl slU8 HO1.out rfl HR1.out rfl (by simp) oneCell_ints (by unfold maxLen; omega) HS1.out (by omega) rfl ?_; intro A2 c2 w2 hown2 hbel2 _ _
             obtain ⟨g, hA2, hg1, hg2⟩ := own_addr hown2 (by omega)
             subst hA2
             have HG1 := Lib.hid hg1
             have hcell := hown2.cellAt k (by omega)
             rw [List.getElem?_map, List.getElem?_eq_getElem HKL.out, Option.map_some] at hcell
             have hfr := hown2.frozenAt k
             have HB2 := Lib.hid (HBA.out.trans hbel2)
             have HO2 := Lib.hid hown2
             clear hown2 hbel2 hg1))
        have hst := HO2.out.stored k (.int .u8 (bits .xor .u8 l[k] b))
        have hset : (l.map (Value.int .u8)).set k (.int .u8 (bits .xor .u8 l[k] b)) = (l.set k (bits .xor .u8 l[k] b)).map (Value.int .u8) := by rw [List.map_set]
        rw [hset] at hst
        have HR3 := Lib.hid (Rd.of_own hst.1)
        have HB3 := Lib.hid (HB2.out.setCell (p := ⟨g, k, none⟩) HG1.out (.int .u8 (bits .xor .u8 l[k] b)))
        have HRL := Lib.hid (HR.out.low HB3.out)
        have hs1 := sum_any _ (l.set k (bits .xor .u8 l[k] b)) c2 _ HR3.out (by rw [List.length_set]; exact HL.out)
        have hs2 := sum_any _ l cap _ HRL.out HL.out
        have hs3 := chain_any 1 2 _ (l.set k (bits .xor .u8 l[k] b)) c2 _ HR3.out (by rw [List.length_set]; exact HL.out)
        have hs4 := chain_any 1 2 _ l cap _ HRL.out HL.out
        rw [List.length_set] at hs1 hs3
        have n1 : (Ck.moreI Ck.init (l.set k (bits .xor .u8 l[k] b)) != Ck.moreI Ck.init l) = true := by
          rw [bne_iff_ne]; exact Ck.moreI_set l k _ HKL.out HB.out (Ck.xor8_bd _ _) hne.out (by unfold Ck.U64 Ck.init; omega)
        have n2 : (Ck.recI 1 2 (l.set k (bits .xor .u8 l[k] b)) != Ck.recI 1 2 l) = true := by
          rw [bne_iff_ne]; exact Ck.recI_set 1 2 l k _ HKL.out HB.out (Ck.xor8_bd _ _) hne.out
        have H1 := Lib.hid hs1
        have H2 := Lib.hid hs2
        have H3 := Lib.hid hs3
        have H4 := Lib.hid hs4
        clear hs1 hs2 hs3 hs4 hst hset hcell hfr hki
        go_wp2_with fail
        refine H1.out.mono ?_
        rintro e w' ⟨rfl, rfl⟩
        go_wp2_with fail
        refine H2.out.mono ?_
        rintro e w' ⟨rfl, rfl⟩
        go_wp2_with fail
        refine H3.out.mono ?_
        rintro e w' ⟨rfl, rfl⟩
        go_wp2_with fail
        refine H4.out.mono ?_
        rintro e w' ⟨rfl, rfl⟩
        go_wp2
        go_ret
        exact ⟨rfl, HB3.out⟩
  · go_enter Try.func8, Try.ntmps8
    go_wp2_with (go_at_call 9; refine (alive_any _).mono ?_; rintro e w1 ⟨rfl, hb1⟩)
    go_ret
    exact ⟨rfl, hb1⟩
end Go.Proofs.Ytmabbdkckdpeoab
