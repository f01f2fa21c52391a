/- Layer 20: the example that the laws check first. -/
import Derived.Test.YtnljnnnplfjnhaaJrJ
namespace Go.Proofs.Ytnljnnnplfjnhaa
set_option linter.unusedSimpArgs false
set_option linter.unusedVariables false
open Go.RowKit

namespace Jr
theorem one_pos (s : Int) (r : R) : 10 ≤ (one s r).length := by have := Wr.enc_pos (r.b.length : Nat); rw [one_len]; omega
theorem val_nil {L : List R} {n : Nat} (h : Val s0 [] L n) : L = [] ∧ n = 0 := by
  have h0 : n = 0 := by have := h.len; simpa using this
  refine ⟨?_, h0⟩
  cases L with
  | nil => rfl
  | cons r l =>
    exfalso
    have := congrArg List.length h.pre
    simp only [encs, List.length_append, List.take_nil, List.length_nil] at this
    have := one_pos s0 r
    omega
theorem len10 (s : Int) : (encs s [⟨1, []⟩]).length = 10 := by
  simp only [encs, List.append_nil]
  rw [one_len]
  have : (Wr.enc (([] : List Int).length : Nat)).length = 1 := by show (Wr.vint 0).length = 1; rw [Wr.vint_lt (by decide)]; rfl
  show (Wr.enc (([] : List Int).length : Nat)).length + 0 + 9 = 10
  omega
theorem ap_ok {D : List Int} {n : Nat} {s : Int} {r : R} (h1 : r.b.length ≤ 8192) (h2 : D.length + (one s r).length ≤ 16777216) : apE ⟨D, n, false⟩ s r = 0 ∧ apT ⟨D, n, false⟩ s r = ⟨D ++ one s r, n, false⟩ ∧ ∀ l, apL ⟨D, n, false⟩ s l r = l ++ [r] := by
  have e1 : apE ⟨D, n, false⟩ s r = 0 := by
    unfold apE St.writeE
    rw [if_neg (by omega), if_neg (fun h => by cases h), if_pos (show St.fits ⟨D, n, false⟩ (one s r) = true from decide_eq_true h2)]
  refine ⟨e1, ?_, fun l => by unfold apL; rw [if_pos e1]⟩
  unfold apT St.write
  rw [if_neg (by omega), if_neg (fun h => by cases h), if_pos (show St.fits ⟨D, n, false⟩ (one s r) = true from decide_eq_true h2)]
end Jr
theorem recs_small {L : List Rv} {R : List Jr.R} {n : Nat} (h : rs L = R) (hs : ∀ r ∈ R, r.b.length ≤ n) : ∀ v ∈ L, v.b.length ≤ n := fun v hv => hs v.r (h ▸ List.mem_map.2 ⟨v, hv, rfl⟩)
theorem encode_ok (w : World) (A : Option Addr) (l : List Rv) (c : Nat) (h : Recs w A l) (hn : l.length ≤ 1000) (hs : ∀ v ∈ l, v.b.length ≤ 8192) : Calls Try.prog 13 #[.slice A l.length c] w fun e_ w' => ∃ A' c', e_ = .returned (.tuple #[.slice A' (Jr.encs Jr.s0 (rs l)).length c', .int .i64 0]) ∧ w'.ownsRow w.heap.size 5 1 (.slice A' (Jr.encs Jr.s0 (rs l)).length c') (Jr.encs Jr.s0 (rs l)).length ((Jr.encs Jr.s0 (rs l)).map (.int .u8)) ∧ Below w.heap.size w w' :=
  (encode_any w A l c h hn).mono fun e_ w' ⟨A', c', h1, _, h3⟩ => ⟨A', c', (h1 hs).1, (h1 hs).2, h3⟩
theorem encode_bad (w : World) (A : Option Addr) (l : List Rv) (c : Nat) (h : Recs w A l) (hn : l.length ≤ 1000) (hs : ¬ ∀ v ∈ l, v.b.length ≤ 8192) : Calls Try.prog 13 #[.slice A l.length c] w fun e_ w' => e_ = .returned (.tuple #[.slice none 0 0, .int .i64 1]) ∧ Below w.heap.size w w' :=
  (encode_any w A l c h hn).mono fun e_ w' ⟨A', c', _, h2, h3⟩ => ⟨h2 hs, h3⟩
theorem jbytes_ok (w : World) (A : Option Addr) (l : List Rv) (c : Nat) (h : Recs w A l) (hn : l.length ≤ 1000) (hcap : l.length ≤ c) (hok : Jr.okL (rs l)) (hs : ∀ v ∈ l, v.b.length ≤ 8192) : Calls Try.prog 14 #[.slice A l.length c] w fun e_ w' => ∃ A' c', e_ = .returned (.tuple #[.slice A' (Jr.encs Jr.s0 (rs l)).length c', .int .i64 0]) ∧ w'.ownsRow w.heap.size 5 1 (.slice A' (Jr.encs Jr.s0 (rs l)).length c') (Jr.encs Jr.s0 (rs l)).length ((Jr.encs Jr.s0 (rs l)).map (.int .u8)) ∧ Below w.heap.size w w' :=
  (jbytes_any w A l c h hn hcap hok).mono fun e_ w' ⟨A', c', h1, _, h3⟩ => ⟨A', c', (h1 hs).1, (h1 hs).2, h3⟩
theorem jbytes_bad (w : World) (A : Option Addr) (l : List Rv) (c : Nat) (h : Recs w A l) (hn : l.length ≤ 1000) (hcap : l.length ≤ c) (hok : Jr.okL (rs l)) (hs : ¬ ∀ v ∈ l, v.b.length ≤ 8192) : Calls Try.prog 14 #[.slice A l.length c] w fun e_ w' => e_ = .returned (.tuple #[.slice none 0 0, .int .i64 1]) ∧ Below w.heap.size w w' :=
  (jbytes_any w A l c h hn hcap hok).mono fun e_ w' ⟨A', c', _, h2, h3⟩ => ⟨h2 hs, h3⟩

set_option maxRecDepth 100000 in
set_option maxHeartbeats 1000000 in
theorem alive_any (w : World) : Calls Try.prog 10 #[] w fun e_ w' => e_ = .returned (.bool true) ∧ Below w.heap.size w w' := by
  refine Fw.calls Try.func10 rfl Try.ntmps10 rfl ?_
  have HB := Below.refl (w.heap.size) w
  refine Fw.seq fun _ hK1 => ?_
  refine Fw.region ?_
  refine Fw.s (Fw.val_assign rfl) rfl ?_
  refine Fw.nil ?_
  refine hK1 _ _ ?_
  refine Fw.seq fun _ hK2 => ?_
  refine Fw.region ?_
  refine Fw.call cf15 rfl rfl (jverify_any _ none [] 0 14695981039346656037 (Rd.nil _ _) (fun x hx => by cases hx) (by decide) (by decide)) ?_
  rintro e_ w1 ⟨M, m, hV0, rfl, hb⟩
  refine ⟨_, rfl, ?_⟩
  replace HB := HB.trans (hb.mono HB.size)
  clear hb
  obtain ⟨rfl, rfl⟩ := Jr.val_nil hV0
  rw [show (if (0 : Nat) < ([] : List Int).length then (2 : Int) else if Jr.sealF Jr.s0 [] ≠ 14695981039346656037 then 15 else 0) = 0 by rw [if_neg (by decide), if_neg (fun h_ => h_ rfl)]]
  refine Fw.s (Fw.val_move rfl) rfl ?_
  refine Fw.s (Fw.val_extract rfl rfl) rfl ?_
  refine Fw.s (Fw.val_extract rfl rfl) rfl ?_
  refine Fw.s (Fw.val_extract rfl rfl) rfl ?_
  refine Fw.s (Fw.val_assign rfl) rfl ?_
  refine Fw.s (Fw.val_assign rfl) rfl ?_
  refine Fw.s (Fw.val_assign rfl) rfl ?_
  refine Fw.nil ?_
  refine hK2 _ _ ?_
  refine Fw.seq fun _ hK3 => ?_
  refine Fw.region ?_
  refine Fw.s (Fw.val_build (ps := [(0, _)]) rfl (bu29_0 _)) rfl ?_
  refine Fw.buildSlice [_] sl25 rfl rfl (by exact Fw.allSz rfl) (by decide) rfl ?_
  intro w2 gS16 egS16 HS16 hb
  have lgS16 : w.heap.size ≤ gS16 := by have := HB.size; omega
  replace HB := HB.trans (hb.mono HB.size)
  clear hb
  clear egS16
  refine Fw.call cf13 rfl rfl (encode_ok _ (some ⟨gS16, 0, none⟩) [⟨1, [], none, 0⟩] 1 ⟨Fw.rdBlk HS16, fun v hv => by simp at hv; subst hv; exact Rd.nil _ _⟩ (by decide) (fun v hv => by simp at hv; subst hv; decide)) ?_
  rintro e_ w3 ⟨A5, c5, rfl, -, hb⟩
  refine ⟨_, rfl, ?_⟩
  replace HS16 := HS16.low hb
  replace HB := HB.trans (hb.mono HB.size)
  clear hb
  rw [show (Jr.encs Jr.s0 (rs [⟨1, [], none, 0⟩])).length = 10 from Jr.len10 _]
  refine Fw.s (Fw.val_move rfl) rfl ?_
  refine Fw.s (Fw.val_extract rfl rfl) rfl ?_
  refine Fw.s (Fw.val_extract rfl rfl) rfl ?_
  refine Fw.s (Fw.val_assign rfl) rfl ?_
  refine Fw.s (Fw.val_assign rfl) rfl ?_
  refine Fw.nil ?_
  refine hK3 _ _ (Fw.FC.sub (f' := [(5, _), (4, _), (3, _), (2, _), (1, _)]) (.cons rfl (.cons rfl (.cons rfl (.cons rfl (.cons rfl .nil))))) ?_)
  refine Fw.seq fun _ hK4 => ?_
  refine Fw.region ?_
  refine Fw.call cf18 rfl rfl (new_any _) ?_
  rintro e_ w4 ⟨rfl, HF, hb⟩
  refine ⟨_, rfl, ?_⟩
  obtain ⟨B, hBe⟩ : ∃ B, B = w3.heap.size := ⟨_, rfl⟩
  rw [← hBe] at HF ⊢
  have hBn : w.heap.size ≤ B := by rw [hBe]; exact HB.size
  replace HB := HB.trans (hb.mono HB.size)
  clear hb
  refine Fw.call cf20 rfl rfl (open_any _ B B _ [] 0 HF (by simp; try omega) (by first | assumption | (intro x hx; cases hx))) ?_
  rintro e_ w5 ⟨p, g1, L, n, rfl, hV, HJ, hLn, hbB⟩
  refine ⟨_, rfl, ?_⟩
  replace HB := HB.trans (hbB.mono hBn)
  clear hbB HF
  refine Fw.s (Fw.val_move rfl) rfl ?_
  refine Fw.s (Fw.val_extract rfl rfl) rfl ?_
  refine Fw.s (Fw.val_extract rfl rfl) rfl ?_
  refine Fw.s (Fw.val_assign rfl) rfl ?_
  refine Fw.s (Fw.val_assign rfl) rfl ?_
  refine Fw.nil ?_
  refine hK4 _ _ ?_
  refine Fw.seq fun _ hK5 => ?_
  refine Fw.seq fun _ hK6 => ?_
  obtain ⟨hLe, rfl⟩ := Jr.val_nil hV
  obtain rfl : L = [] := List.map_eq_nil_iff.1 hLe
  refine Fw.region ?_
  refine Fw.s (Fw.val_move rfl) rfl ?_
  refine Fw.s (Fw.Val.F (Fw.val_bin rfl rfl Fw.b_neq) (by decide)) rfl ?_
  refine Fw.s (Fw.val_move rfl) rfl ?_
  refine Fw.gT (d := 27) rfl rfl ?_
  refine Fw.s (Fw.val_move rfl) rfl ?_
  refine Fw.gT (d := 27) rfl rfl ?_
  refine Fw.s (Fw.Val.F (Fw.val_bin rfl rfl Fw.b_neq) (by decide)) rfl ?_
  refine Fw.s (Fw.val_pickF rfl rfl) rfl ?_
  refine Fw.s (Fw.val_move rfl) rfl ?_
  refine Fw.gT (d := 31) rfl rfl ?_
  refine Fw.s (Fw.val_move rfl) rfl ?_
  refine Fw.gT (d := 31) rfl rfl ?_
  refine Fw.s (Fw.Val.F (Fw.val_bin rfl rfl Fw.b_neq) (by decide)) rfl ?_
  refine Fw.s (Fw.val_pickF rfl rfl) rfl ?_
  refine Fw.s (Fw.val_move rfl) rfl ?_
  refine Fw.gT (d := 35) rfl rfl ?_
  refine Fw.s (Fw.val_move rfl) rfl ?_
  refine Fw.gT (d := 35) rfl rfl ?_
  refine Fw.s (Fw.Val.F (Fw.val_bin rfl rfl Fw.b_neq) (by decide)) rfl ?_
  refine Fw.s (Fw.val_pickF rfl rfl) rfl ?_
  refine Fw.s (Fw.val_move rfl) rfl ?_
  refine Fw.gT (d := 39) rfl rfl ?_
  refine Fw.s (Fw.val_move rfl) rfl ?_
  refine Fw.gT (d := 39) rfl rfl ?_
  refine Fw.s (Fw.val_len Try.underlying26 rfl) rfl ?_
  refine Fw.gT (d := 39) rfl rfl ?_
  refine Fw.s (Fw.Val.F (Fw.val_bin rfl rfl Fw.b_neq) (by decide)) rfl ?_
  refine Fw.s (Fw.val_pickF rfl rfl) rfl ?_
  refine Fw.s (Fw.val_move rfl) rfl ?_
  refine Fw.gT (d := 44) rfl rfl ?_
  refine Fw.s (Fw.val_move rfl) rfl ?_
  refine Fw.gT (d := 44) rfl rfl ?_
  refine Fw.s (Fw.Val.F (Fw.val_bin rfl rfl Fw.b_neq) (by decide)) rfl ?_
  refine Fw.s (Fw.val_pickF rfl rfl) rfl ?_
  refine Fw.s (Fw.val_move rfl) rfl ?_
  refine Fw.gT (d := 48) rfl rfl ?_
  refine Fw.s (Fw.val_move rfl) rfl ?_
  refine Fw.gT (d := 48) rfl rfl ?_
  refine Fw.s (Fw.val_bin rfl rfl (Fw.b_nilP Try.underlying44)) rfl ?_
  refine Fw.s (Fw.val_pickF rfl rfl) rfl ?_
  refine Fw.nil ?_
  refine hK6 _ _ (Fw.FC.sub (f' := [(51, _), (6, _)]) (.cons rfl (.cons rfl .nil)) ?_)
  refine Fw.condF rfl ?_
  refine Fw.skip ?_
  refine hK5 _ _ ?_
  refine Fw.seq fun _ hK7 => ?_
  refine Fw.region ?_
  refine Fw.s (Fw.val_move rfl) rfl ?_
  refine Fw.s (Fw.val_build (ps := [(0, _)]) rfl (bu29_0 _)) rfl ?_
  refine Fw.call cf24 rfl rfl (jappend_any _ B p _ _ ⟨[], 0, false⟩ [] 1 none [] 0 HJ ⟨Rd.nil _ _, fun h_ => absurd rfl h_⟩ (by simp) (by simp)) ?_
  rintro e_ w6 ⟨g2, L2, rfl, HJ2, hL2, hk, hg2⟩
  refine ⟨_, rfl, ?_⟩
  replace HB := HB.trans (hk.low.mono hBn)
  clear hk HJ
  have HJ := HJ2
  clear HJ2
  obtain ⟨e1, e2, e3⟩ := Jr.ap_ok (D := []) (n := 0) (s := Jr.sealF Jr.s0 (rs [])) (r := (⟨1, []⟩ : Jr.R)) (by decide) (by have := Jr.one_le (s := Jr.sealF Jr.s0 (rs [])) (r := (⟨1, []⟩ : Jr.R)) (by decide); show 0 + _ ≤ _; omega)
  rw [e1]
  rw [e3] at hL2
  replace hL2 : rs L2 = [(⟨1, []⟩ : Jr.R)] := hL2
  have hl2 : L2.length = 1 := by rw [← rs_len, hL2]; rfl
  refine Fw.s (Fw.val_assign rfl) rfl ?_
  refine Fw.nil ?_
  refine hK7 _ _ ?_
  refine Fw.seq fun _ hK8 => ?_
  refine Fw.region ?_
  refine Fw.s (Fw.val_move rfl) rfl ?_
  refine Fw.s (Fw.Val.T (Fw.val_bin rfl rfl Fw.b_eql) (by decide)) rfl ?_
  refine Fw.s (Fw.val_move rfl) rfl ?_
  refine Fw.gT (d := 57) rfl rfl ?_
  refine Fw.s (Fw.val_move rfl) rfl ?_
  refine Fw.gT (d := 57) rfl rfl ?_
  refine Fw.call cf31 rfl rfl (jrecords_any _ B p _ _ _ L2 HJ (by omega) (recs_small hL2 (fun r hr => by simp at hr; subst hr; decide))) ?_
  rintro e_ w7 ⟨L3, A59, c59, rfl, hL3, -, hb⟩
  refine ⟨_, rfl, ?_⟩
  replace HJ := HJ.low hb
  replace HB := HB.trans (hb.mono HB.size)
  clear hb
  have hl3 : L3.length = 1 := by rw [← rs_len, hL3, rs_len]; exact hl2
  refine Fw.gT (d := 57) rfl rfl ?_
  refine Fw.s (Fw.val_len Try.underlying25 rfl) rfl ?_
  refine Fw.gT (d := 57) rfl rfl ?_
  refine Fw.s (Fw.Val.T (Fw.val_bin rfl rfl Fw.b_eql) (by rw [hl3]; rfl)) rfl ?_
  refine Fw.s (Fw.val_pickT rfl rfl) rfl ?_
  refine Fw.s (Fw.val_assign rfl) rfl ?_
  refine Fw.nil ?_
  refine hK8 _ _ (Fw.FC.sub (f' := [(0, _)]) (.cons rfl .nil) ?_)
  refine Fw.ret ?_
  refine Fw.ret_ [.tmp 0] [_] Try.results10 (.tmp rfl .nil) ?_
  exact ⟨rfl, HB⟩

end Go.Proofs.Ytnljnnnplfjnhaa
