/- Layer 20: the laws JournalEncodes, JournalVerifies, JournalChecksums. -/
import Derived.Test.YtnljnnnplfjnhaaJrK
namespace Go.Proofs.Ytnljnnnplfjnhaa
set_option linter.unusedSimpArgs false
set_option linter.unusedVariables false
open Go.RowKit

theorem small_use {l : List Rv} {n : Nat} (h : decide (l.length ≤ n ∧ Jr.tot (rs l) ≤ 4000) = true) : l.length ≤ n ∧ ∀ v ∈ l, v.b.length ≤ 4000 := by
  have h := of_decide_eq_true h
  exact ⟨h.1, fun v hv => Nat.le_trans (Jr.le_tot (r := v.r) (List.mem_map.2 ⟨v, hv, rfl⟩)) h.2⟩
theorem okL_of {l : List Rv} (hok : ∀ v ∈ l, v.r.ok) (hs : ∀ v ∈ l, v.b.length ≤ 4000) : Jr.okL (rs l) := fun r hr => by
  obtain ⟨v, hv, rfl⟩ := List.mem_map.1 hr
  exact ⟨hok v hv, Nat.le_trans (hs v hv) (by decide)⟩
theorem encs_le {l : List Rv} (hs : ∀ v ∈ l, v.b.length ≤ 4000) (s : Int) : (Jr.encs s (rs l)).length ≤ l.length * 8220 := by
  have := jenc_len (s := s) (l := rs l) (fun r hr => by obtain ⟨v, hv, rfl⟩ := List.mem_map.1 hr; exact Nat.le_trans (hs v hv) (by decide))
  rw [rs_len] at this; exact this
namespace Jr
theorem first_nil (s : Int) : first s [] = none := by unfold first rl; rw [Wr.dec_nil]
theorem encs_bts : ∀ {l : List R} {s : Int}, (∀ r ∈ l, r.ok) → Ck.Bts (encs s l)
  | [], s, _ => fun x hx => by cases hx
  | r :: l, s, h => by
    intro x hx
    rcases List.mem_append.1 hx with hx | hx
    · exact one_bts s (h r (by simp)) x hx
    · exact encs_bts (fun y hy => h y (by simp [hy])) x hx
theorem val_encs {l : List R} (s : Int) (h : ∀ r ∈ l, r.ok ∧ r.b.length ≤ 8192) : Val s (encs s l) l (encs s l).length :=
  ⟨Nat.le_refl _, List.take_of_length_le (Nat.le_refl _), h, by rw [List.drop_of_length_le (Nat.le_refl _)]; exact first_nil _⟩
end Jr
theorem Recs.own {w : World} {B : Nat} {e : TypeId} {A : Option Addr} {c : Nat} {l : List Rv} (h : w.ownsRow B e 2 (.slice A l.length c) l.length (l.flatMap Rv.cells)) (hb : ∀ v ∈ l, Rd w v.A (v.b.map (.int .u8))) : Recs w A l := ⟨Rd.of_own h, hb⟩

set_option maxRecDepth 100000 in
set_option maxHeartbeats 1000000 in
theorem encodes_any (w : World) (A : Option Addr) (l : List Rv) (c : Nat) (h : Recs w A l) (hcap : l.length ≤ c) (hlm : l.length ≤ maxLen) (hbig : ∀ v ∈ l, v.b.length ≤ 140737488355328) (hok : ∀ v ∈ l, v.r.ok) : Calls Try.prog 3 #[.slice A l.length c] w fun e_ w' => e_ = .returned (.bool true) ∧ Below w.heap.size w w' := by
  refine Fw.calls Try.func3 rfl Try.ntmps3 rfl ?_
  have HB := Below.refl (w.heap.size) w
  refine Fw.seq fun _ hK1 => ?_
  refine Fw.region ?_
  refine Fw.s (Fw.val_assign rfl) rfl ?_
  refine Fw.nil ?_
  refine hK1 _ _ ?_
  refine Fw.seq fun _ hK2 => ?_
  refine Fw.seq fun _ hK3 => ?_
  refine Fw.region ?_
  refine Fw.call cf10 rfl rfl (alive_any _) ?_
  rintro e_ w1 ⟨rfl, hb⟩
  refine ⟨_, rfl, ?_⟩
  replace HB := HB.trans (hb.mono HB.size)
  clear hb
  refine Fw.bT (by rfl) ?_
  refine Fw.s (Fw.val_not rfl) rfl ?_
  refine Fw.nil ?_
  refine hK3 _ _ ?_
  refine Fw.condF rfl ?_
  refine Fw.skip ?_
  refine hK2 _ _ ?_
  refine Fw.seq fun _ hK4 => ?_
  refine Fw.seq fun _ hK5 => ?_
  refine Fw.region ?_
  refine Fw.s (Fw.val_move rfl) rfl ?_
  refine Fw.call cf11 rfl rfl (jsmall_any _ A l c (h.low HB) hlm 20 (by decide) hbig) ?_
  rintro e_ w2 ⟨rfl, hb⟩
  refine ⟨_, rfl, ?_⟩
  replace HB := HB.trans (hb.mono HB.size)
  clear hb
  refine Fw.b2 ?_ ?_
  · rintro hsm
    refine Fw.s (Fw.val_not rfl) rfl ?_
    refine Fw.nil ?_
    refine hK5 _ _ ?_
    refine Fw.condF rfl ?_
    refine Fw.skip ?_
    refine hK4 _ _ (Fw.FC.sub (f' := [(0, _)]) (.cons rfl .nil) ?_)
    refine Fw.seq fun _ hK6 => ?_
    obtain ⟨hl20, hbs⟩ := small_use hsm
    have hokl := okL_of hok hbs
    refine Fw.region ?_
    refine Fw.s (Fw.val_assign rfl) rfl ?_
    refine Fw.nil ?_
    refine hK6 _ _ ?_
    refine Fw.seq fun _ hK7 => ?_
    refine Fw.seq fun _ hK8 => ?_
    refine Fw.region ?_
    refine Fw.s (Fw.val_move rfl) rfl ?_
    refine Fw.s (Fw.val_len Try.underlying22 rfl) rfl ?_
    refine Fw.s (Fw.val_move rfl) rfl ?_
    refine Fw.nil ?_
    refine hK8 _ _ ?_
    refine Fw.block ?_
    have HO : w2.ownsRow w.heap.size 29 2 (.slice none (l.take 0).length 0) (l.take 0).length ((l.take 0).flatMap Rv.cells) := World.ownsRow_nil _ _ _ _
    refine Fw.loop (fun m_ f_ W_ => ∃ (k : Nat) (A_ : Option Addr) (c_ : Nat), m_ = l.length - k ∧ k ≤ l.length ∧ W_.ownsRow w.heap.size 29 2 (.slice A_ (l.take k).length c_) (l.take k).length ((l.take k).flatMap Rv.cells) ∧ Below (w.heap.size) w W_ ∧ f_ = [(20, .int .i64 k), (19, .int .i64 l.length), (18, .slice A l.length c), (3, .slice A_ (l.take k).length c_), (0, .slice A l.length c)]) ⟨_, _, ⟨0, none, 0, rfl, Nat.zero_le _, HO, HB, rfl⟩, (.cons rfl (.cons rfl (.cons rfl (.cons rfl (.cons rfl .nil)))))⟩ ?_
    clear HO HB
    rintro m9_ _ w3 ⟨k, A_, c_, hm9_, hkl, HO, HB, rfl⟩
    refine Fw.seq fun _ hK10 => ?_
    refine Fw.region ?_
    refine Fw.s2 (Fw.val_bin rfl rfl Fw.b_lss) rfl ?_ ?_
    · rintro hk
      refine Fw.nil ?_
      refine hK10 _ _ ?_
      refine Fw.seq fun _ hK12 => ?_
      refine Fw.condT rfl ?_
      refine Fw.skip ?_
      refine hK12 _ _ ?_
      refine Fw.seq fun _ hK13 => ?_
      refine Fw.block ?_
      refine Fw.seq fun _ hK14 => ?_
      have hkn : k < l.length := by omega
      obtain ⟨ad, b_, o_, hA, hadd, HE⟩ := Fw.rdAt Rv.len (by decide) (h.low HB).1 k hkn
      refine Fw.region ?_
      refine Fw.s (Fw.val_indexR Try.underlying22 sz28 rfl hA rfl rfl hkn hadd) rfl ?_
      refine Fw.ldA ag28 rfl (HE) rfl rfl ?_
      refine Fw.alloc ze28 rfl ?_
      intro w4 gXv egXv HXv hb
      have lgXv : w.heap.size ≤ gXv := by have := HB.size; omega
      clear HE
      replace HO := own_below HO hb (Nat.le_refl _)
      replace HB := HB.trans (hb.mono HB.size)
      clear hb
      clear egXv
      refine Fw.storeW sz28 rfl rfl HXv rfl rfl (by exact Fw.oneCells rfl) ?_
      intro w5 N_ hc
      replace HO := own_to HO hc (fun g_ h_ e_ => own_ne HO HXv (by decide) (by rw [h_, e_]))
      replace HB := HB.trans (hc.below (B := w.heap.size) (fun k e => by omega) HB.size)
      clear hc
      clear HXv
      have HXv := N_
      clear N_
      refine Fw.nil ?_
      refine hK14 _ _ ?_
      refine Fw.region ?_
      refine Fw.s (Fw.val_move rfl) rfl ?_
      refine Fw.ldA ag28 rfl (Fw.rdBlk HXv) rfl rfl ?_
      refine Fw.call cf12 rfl rfl (jown_any _ l[k].k l[k].A l[k].b.length l[k].c) ?_
      rintro e_ w6 ⟨rfl, hb⟩
      refine ⟨_, rfl, ?_⟩
      replace HO := own_below HO hb (Nat.le_refl _)
      replace HXv := HXv.low hb
      replace HB := HB.trans (hb.mono HB.size)
      clear hb
      refine Fw.buildSlice [_] sl25 rfl rfl (by exact Fw.allSz rfl) (by decide) rfl ?_
      intro w7 gS27 egS27 HS27 hb
      have n_gXv_gS27 : gXv < gS27 := by have := HXv.lt; omega
      have lgS27 : w.heap.size ≤ gS27 := by have := HB.size; omega
      replace HO := own_below HO hb (Nat.le_refl _)
      replace HXv := HXv.low hb
      replace HB := HB.trans (hb.mono HB.size)
      clear hb
      clear egS27
      have htk : l.take (k + 1) = l.take k ++ [l[k]] := List.take_succ_eq_append_getElem hkn
      refine Fw.append (base := w.heap.size) (l.take (k + 1)).length ((l.take (k + 1)).flatMap Rv.cells) sl25 rfl rfl HO (Fw.rdBlk HS27) rfl (Fw.oneCellsL rfl) (by rw [List.length_take]; unfold maxLen; omega) HB.size (by rw [htk, List.length_append]; rfl) (by rw [htk, List.flatMap_append]; rfl) rfl ?_
      intro A28 c28 w8 N_ hbb hc _
      replace HB := HB.trans hbb
      clear hbb hc HO
      have HO := N_
      clear N_
      refine Fw.s (Fw.val_assign rfl) rfl ?_
      refine Fw.nil ?_
      refine Fw.X_blockN ?_
      refine hK13 _ _ (Fw.FC.sub (f' := [(3, _), (20, _), (19, _), (18, _), (0, _)]) (.cons rfl (.cons rfl (.cons rfl (.cons rfl (.cons rfl .nil))))) ?_)
      refine Fw.region ?_
      refine Fw.s (Fw.val_bin rfl rfl (Fw.b_add (Fw.i64_ok (by omega)))) rfl ?_
      refine Fw.s (Fw.val_move rfl) rfl ?_
      refine Fw.nil ?_
      refine Fw.roundEnd _ _ (by omega) ⟨k + 1, A28, c28, rfl, hkn, HO, HB, rfl⟩ (.cons rfl (.cons rfl (.cons rfl (.cons rfl (.cons rfl .nil)))))
    · rintro hk
      refine Fw.nil ?_
      refine hK10 _ _ ?_
      refine Fw.seq fun _ hK16 => ?_
      refine Fw.condF rfl ?_
      refine Fw.exit ?_
      refine Fw.X_exit ?_
      refine Fw.X_exit ?_
      refine Fw.X_block ?_
      refine hK7 _ _ ?_
      refine Fw.seq fun _ hK17 => ?_
      obtain rfl : k = l.length := by omega
      rw [List.take_length] at HO ⊢
      refine Fw.region ?_
      refine Fw.s (Fw.val_move rfl) rfl ?_
      refine Fw.call cf13 rfl rfl (encode_ok _ A_ l c_ (Recs.own HO (fun v hv => (h.2 v hv).low HB)) (by omega) (fun v hv => Nat.le_trans (hbs v hv) (by decide))) ?_
      rintro e_ w9 ⟨A6, c6, rfl, H6, hb⟩
      refine ⟨_, rfl, ?_⟩
      replace HO := own_below HO hb (Nat.le_refl _)
      replace HB := HB.trans (hb.mono HB.size)
      clear hb
      refine Fw.s (Fw.val_move rfl) rfl ?_
      refine Fw.s (Fw.val_extract rfl rfl) rfl ?_
      refine Fw.s (Fw.val_extract rfl rfl) rfl ?_
      refine Fw.s (Fw.val_assign rfl) rfl ?_
      refine Fw.s (Fw.val_assign rfl) rfl ?_
      refine Fw.nil ?_
      refine hK17 _ _ (Fw.FC.sub (f' := [(7, _), (6, _), (0, _)]) (.cons rfl (.cons rfl (.cons rfl .nil))) ?_)
      refine Fw.seq fun _ hK18 => ?_
      refine Fw.region ?_
      refine Fw.s (Fw.val_move rfl) rfl ?_
      refine Fw.call cf14 rfl rfl (jbytes_ok _ A l c (h.low HB) (by omega) hcap hokl (fun v hv => Nat.le_trans (hbs v hv) (by decide))) ?_
      rintro e_ w10 ⟨A8, c8, rfl, H8, hb⟩
      refine ⟨_, rfl, ?_⟩
      replace H6 := own_below H6 hb (Nat.le_refl _)
      replace HB := HB.trans (hb.mono HB.size)
      clear hb
      refine Fw.s (Fw.val_move rfl) rfl ?_
      refine Fw.s (Fw.val_extract rfl rfl) rfl ?_
      refine Fw.s (Fw.val_extract rfl rfl) rfl ?_
      refine Fw.s (Fw.val_assign rfl) rfl ?_
      refine Fw.s (Fw.val_assign rfl) rfl ?_
      refine Fw.nil ?_
      refine hK18 _ _ ?_
      refine Fw.seq fun _ hK19 => ?_
      refine Fw.region ?_
      refine Fw.s (Fw.val_move rfl) rfl ?_
      refine Fw.s (Fw.val_move rfl) rfl ?_
      refine Fw.call cf16 rfl rfl (seal_any _ A l c (h.low HB) (by omega) hokl) ?_
      rintro e_ w11 ⟨rfl, hb⟩
      refine ⟨_, rfl, ?_⟩
      replace H6 := own_below H6 hb (Nat.le_refl _)
      replace H8 := own_below H8 hb (Nat.le_refl _)
      replace HB := HB.trans (hb.mono HB.size)
      clear hb
      refine Fw.call cf15 rfl rfl (jverify_any _ A6 (Jr.encs Jr.s0 (rs l)) c6 (Jr.sealF Jr.s0 (rs l)) (Rd.of_own H6) (Jr.encs_bts fun r hr => (hokl r hr).1) (by have := encs_le hbs Jr.s0; omega) (own_cap H6).1) ?_
      rintro e_ w12 ⟨M, m, hV, rfl, hb⟩
      refine ⟨_, rfl, ?_⟩
      replace H6 := own_below H6 hb (Nat.le_refl _)
      replace H8 := own_below H8 hb (Nat.le_refl _)
      replace HB := HB.trans (hb.mono HB.size)
      clear hb
      obtain ⟨rfl, rfl⟩ := hV.eq (b := []) (Jr.val_encs Jr.s0 (fun r hr => ⟨(hokl r hr).1, by obtain ⟨v, hv, rfl⟩ := List.mem_map.1 hr; exact Nat.le_trans (hbs v hv) (by decide)⟩))
      rw [if_neg (Nat.lt_irrefl _), if_neg (fun h_ => h_ rfl)]
      refine Fw.s (Fw.val_move rfl) rfl ?_
      refine Fw.s (Fw.val_extract rfl rfl) rfl ?_
      refine Fw.s (Fw.val_extract rfl rfl) rfl ?_
      refine Fw.s (Fw.val_extract rfl rfl) rfl ?_
      refine Fw.s (Fw.val_assign rfl) rfl ?_
      refine Fw.s (Fw.val_assign rfl) rfl ?_
      refine Fw.s (Fw.val_assign rfl) rfl ?_
      refine Fw.nil ?_
      refine hK19 _ _ (Fw.FC.sub (f' := [(12, _), (11, _), (10, _), (9, _), (8, _), (7, _), (6, _), (0, _)]) (.cons rfl (.cons rfl (.cons rfl (.cons rfl (.cons rfl (.cons rfl (.cons rfl (.cons rfl .nil)))))))) ?_)
      refine Fw.seq fun _ hK20 => ?_
      refine Fw.region ?_
      refine Fw.s (Fw.val_move rfl) rfl ?_
      refine Fw.s (Fw.val_str (l := (Jr.encs Jr.s0 (rs l))) Try.underlying26 Try.underlying5 Try.underlying9 rfl (fun _ h_ => h_ ▸ Rd.of_own H6) rfl) rfl ?_
      refine Fw.s (Fw.val_move rfl) rfl ?_
      refine Fw.s (Fw.val_str (l := (Jr.encs Jr.s0 (rs l))) Try.underlying26 Try.underlying5 Try.underlying9 rfl (fun _ h_ => h_ ▸ Rd.of_own H8) rfl) rfl ?_
      refine Fw.s (Fw.Val.T (Fw.val_bin rfl rfl Fw.b_eqlS) (by rfl)) rfl ?_
      refine Fw.s (Fw.val_move rfl) rfl ?_
      refine Fw.gT (d := 53) rfl rfl ?_
      refine Fw.s (Fw.val_move rfl) rfl ?_
      refine Fw.gT (d := 53) rfl rfl ?_
      refine Fw.s (Fw.val_move rfl) rfl ?_
      refine Fw.gT (d := 53) rfl rfl ?_
      refine Fw.s (Fw.Val.T (Fw.val_bin rfl rfl Fw.b_eql) (by rfl)) rfl ?_
      refine Fw.s (Fw.val_pickT rfl rfl) rfl ?_
      refine Fw.s (Fw.val_move rfl) rfl ?_
      refine Fw.gT (d := 58) rfl rfl ?_
      refine Fw.s (Fw.val_move rfl) rfl ?_
      refine Fw.gT (d := 58) rfl rfl ?_
      refine Fw.s (Fw.val_move rfl) rfl ?_
      refine Fw.gT (d := 58) rfl rfl ?_
      refine Fw.s (Fw.val_len Try.underlying22 rfl) rfl ?_
      refine Fw.gT (d := 58) rfl rfl ?_
      refine Fw.s (Fw.Val.T (Fw.val_bin rfl rfl Fw.b_eql) (by rw [rs_len])) rfl ?_
      refine Fw.s (Fw.val_pickT rfl rfl) rfl ?_
      refine Fw.s (Fw.val_move rfl) rfl ?_
      refine Fw.gT (d := 64) rfl rfl ?_
      refine Fw.s (Fw.val_move rfl) rfl ?_
      refine Fw.gT (d := 64) rfl rfl ?_
      refine Fw.s (Fw.val_move rfl) rfl ?_
      refine Fw.gT (d := 64) rfl rfl ?_
      refine Fw.s (Fw.val_len Try.underlying26 rfl) rfl ?_
      refine Fw.gT (d := 64) rfl rfl ?_
      refine Fw.s (Fw.Val.T (Fw.val_bin rfl rfl Fw.b_eql) (by rfl)) rfl ?_
      refine Fw.s (Fw.val_pickT rfl rfl) rfl ?_
      refine Fw.s (Fw.val_move rfl) rfl ?_
      refine Fw.gT (d := 70) rfl rfl ?_
      refine Fw.s (Fw.val_move rfl) rfl ?_
      refine Fw.gT (d := 70) rfl rfl ?_
      refine Fw.s (Fw.Val.T (Fw.val_bin rfl rfl Fw.b_eql) (by rfl)) rfl ?_
      refine Fw.s (Fw.val_pickT rfl rfl) rfl ?_
      refine Fw.s (Fw.val_assign rfl) rfl ?_
      refine Fw.nil ?_
      refine hK20 _ _ (Fw.FC.sub (f' := [(2, _)]) (.cons rfl .nil) ?_)
      refine Fw.ret ?_
      refine Fw.ret_ [.tmp 2] [_] Try.results3 (.tmp rfl .nil) ?_
      exact ⟨rfl, HB⟩
  · rintro hsm
    refine Fw.s (Fw.val_not rfl) rfl ?_
    refine Fw.nil ?_
    refine hK5 _ _ ?_
    refine Fw.condT rfl ?_
    refine Fw.seq fun _ hK21 => ?_
    refine Fw.region ?_
    refine Fw.s (Fw.val_assign rfl) rfl ?_
    refine Fw.nil ?_
    refine hK21 _ _ (Fw.FC.sub (f' := [(2, _)]) (.cons rfl .nil) ?_)
    refine Fw.ret ?_
    refine Fw.X_ret ?_
    refine Fw.ret_ [.tmp 2] [_] Try.results3 (.tmp rfl .nil) ?_
    exact ⟨rfl, HB⟩

set_option maxRecDepth 100000 in
set_option maxHeartbeats 1000000 in
theorem verifies_any (w : World) (A : Option Addr) (b : List Int) (c : Nat) (s : Int) (h : Rd w A (b.map (.int .u8))) (hb : Ck.Bts b) (hc : b.length ≤ c) : Calls Try.prog 4 #[.slice A b.length c, .int .u64 s] w fun e_ w' => e_ = .returned (.bool true) ∧ Below w.heap.size w w' := by
  refine Fw.calls Try.func4 rfl Try.ntmps4 rfl ?_
  have HB := Below.refl (w.heap.size) w
  refine Fw.seq fun _ hK1 => ?_
  refine Fw.region ?_
  refine Fw.s (Fw.val_assign rfl) rfl ?_
  refine Fw.nil ?_
  refine hK1 _ _ ?_
  refine Fw.seq fun _ hK2 => ?_
  refine Fw.seq fun _ hK3 => ?_
  refine Fw.region ?_
  refine Fw.call cf10 rfl rfl (alive_any _) ?_
  rintro e_ w1 ⟨rfl, hb⟩
  refine ⟨_, rfl, ?_⟩
  replace HB := HB.trans (hb.mono HB.size)
  clear hb
  refine Fw.bT (by rfl) ?_
  refine Fw.s (Fw.val_not rfl) rfl ?_
  refine Fw.nil ?_
  refine hK3 _ _ ?_
  refine Fw.condF rfl ?_
  refine Fw.skip ?_
  refine hK2 _ _ ?_
  refine Fw.seq fun _ hK4 => ?_
  refine Fw.seq fun _ hK5 => ?_
  refine Fw.region ?_
  refine Fw.s (Fw.val_move rfl) rfl ?_
  refine Fw.s (Fw.val_len Try.underlying26 rfl) rfl ?_
  refine Fw.s2 (Fw.val_bin rfl rfl Fw.b_gtr) rfl ?_ ?_
  · rintro hn2
    refine Fw.nil ?_
    refine hK5 _ _ ?_
    refine Fw.condT rfl ?_
    refine Fw.seq fun _ hK7 => ?_
    refine Fw.region ?_
    refine Fw.s (Fw.val_assign rfl) rfl ?_
    refine Fw.nil ?_
    refine hK7 _ _ (Fw.FC.sub (f' := [(4, _)]) (.cons rfl .nil) ?_)
    refine Fw.ret ?_
    refine Fw.X_ret ?_
    refine Fw.ret_ [.tmp 4] [_] Try.results4 (.tmp rfl .nil) ?_
    exact ⟨rfl, HB⟩
  · rintro hn2
    refine Fw.nil ?_
    refine hK5 _ _ ?_
    refine Fw.condF rfl ?_
    refine Fw.skip ?_
    refine hK4 _ _ ?_
    refine Fw.seq fun _ hK8 => ?_
    refine Fw.region ?_
    refine Fw.s (Fw.val_move rfl) rfl ?_
    refine Fw.s (Fw.val_move rfl) rfl ?_
    refine Fw.call cf15 rfl rfl (jverify_any _ A b c s (h.low HB) hb (by omega) hc) ?_
    rintro e_ w2 ⟨M, m, hV, rfl, hb_⟩
    refine ⟨_, rfl, ?_⟩
    replace HB := HB.trans (hb_.mono HB.size)
    clear hb_
    refine Fw.s (Fw.val_move rfl) rfl ?_
    refine Fw.s (Fw.val_extract rfl rfl) rfl ?_
    refine Fw.s (Fw.val_extract rfl rfl) rfl ?_
    refine Fw.s (Fw.val_extract rfl rfl) rfl ?_
    refine Fw.s (Fw.val_assign rfl) rfl ?_
    refine Fw.s (Fw.val_assign rfl) rfl ?_
    refine Fw.s (Fw.val_assign rfl) rfl ?_
    refine Fw.nil ?_
    refine hK8 _ _ (Fw.FC.sub (f' := [(7, _), (6, _), (5, _), (0, _), (1, _)]) (.cons rfl (.cons rfl (.cons rfl (.cons rfl (.cons rfl .nil))))) ?_)
    refine Fw.seq fun _ hK9 => ?_
    refine Fw.region ?_
    refine Fw.s (Fw.val_move rfl) rfl ?_
    refine Fw.s (Fw.val_move rfl) rfl ?_
    refine Fw.call cf17 rfl rfl (jcheck_any _ A b c s (h.low HB) hb (by omega) hc) ?_
    rintro e_ w3 ⟨M2, m2, hV2, rfl, hb_⟩
    refine ⟨_, rfl, ?_⟩
    replace HB := HB.trans (hb_.mono HB.size)
    clear hb_
    obtain ⟨rfl, rfl⟩ := hV.eq (b := []) hV2
    refine Fw.s (Fw.val_move rfl) rfl ?_
    refine Fw.s (Fw.val_extract rfl rfl) rfl ?_
    refine Fw.s (Fw.val_extract rfl rfl) rfl ?_
    refine Fw.s (Fw.val_extract rfl rfl) rfl ?_
    refine Fw.s (Fw.val_assign rfl) rfl ?_
    refine Fw.s (Fw.val_assign rfl) rfl ?_
    refine Fw.s (Fw.val_assign rfl) rfl ?_
    refine Fw.nil ?_
    refine hK9 _ _ (Fw.FC.sub (f' := [(10, _), (9, _), (8, _), (7, _), (6, _), (5, _)]) (.cons rfl (.cons rfl (.cons rfl (.cons rfl (.cons rfl (.cons rfl .nil)))))) ?_)
    refine Fw.seq fun _ hK10 => ?_
    refine Fw.region ?_
    refine Fw.s (Fw.val_move rfl) rfl ?_
    refine Fw.s (Fw.val_move rfl) rfl ?_
    refine Fw.s (Fw.Val.T (Fw.val_bin rfl rfl Fw.b_eql) (by rfl)) rfl ?_
    refine Fw.s (Fw.val_move rfl) rfl ?_
    refine Fw.gT (d := 33) rfl rfl ?_
    refine Fw.s (Fw.val_move rfl) rfl ?_
    refine Fw.gT (d := 33) rfl rfl ?_
    refine Fw.s (Fw.val_move rfl) rfl ?_
    refine Fw.gT (d := 33) rfl rfl ?_
    refine Fw.s (Fw.Val.T (Fw.val_bin rfl rfl Fw.b_eql) (by rfl)) rfl ?_
    refine Fw.s (Fw.val_pickT rfl rfl) rfl ?_
    refine Fw.s (Fw.val_move rfl) rfl ?_
    refine Fw.gT (d := 38) rfl rfl ?_
    refine Fw.s (Fw.val_move rfl) rfl ?_
    refine Fw.gT (d := 38) rfl rfl ?_
    refine Fw.s (Fw.val_move rfl) rfl ?_
    refine Fw.gT (d := 38) rfl rfl ?_
    refine Fw.s (Fw.Val.T (Fw.val_bin rfl rfl Fw.b_eql) (by rfl)) rfl ?_
    refine Fw.s (Fw.val_pickT rfl rfl) rfl ?_
    refine Fw.s (Fw.val_assign rfl) rfl ?_
    refine Fw.nil ?_
    refine hK10 _ _ (Fw.FC.sub (f' := [(4, _)]) (.cons rfl .nil) ?_)
    refine Fw.ret ?_
    refine Fw.ret_ [.tmp 4] [_] Try.results4 (.tmp rfl .nil) ?_
    exact ⟨rfl, HB⟩

set_option maxRecDepth 100000 in
set_option maxHeartbeats 1000000 in
theorem checksums_any (w : World) (A : Option Addr) (l : List Rv) (c : Nat) (h : Recs w A l) (hcap : l.length ≤ c) (hlm : l.length ≤ maxLen) (hbig : ∀ v ∈ l, v.b.length ≤ 140737488355328) (hok : ∀ v ∈ l, v.r.ok) (n : Int) : Calls Try.prog 7 #[.slice A l.length c, .int .i64 n] w fun e_ w' => e_ = .returned (.bool true) ∧ Below w.heap.size w w' := by
  refine Fw.calls Try.func7 rfl Try.ntmps7 rfl ?_
  have HB := Below.refl (w.heap.size) w
  refine Fw.seq fun _ hK1 => ?_
  refine Fw.region ?_
  refine Fw.s (Fw.val_assign rfl) rfl ?_
  refine Fw.nil ?_
  refine hK1 _ _ ?_
  refine Fw.seq fun _ hK2 => ?_
  refine Fw.seq fun _ hK3 => ?_
  refine Fw.region ?_
  refine Fw.call cf10 rfl rfl (alive_any _) ?_
  rintro e_ w1 ⟨rfl, hb⟩
  refine ⟨_, rfl, ?_⟩
  replace HB := HB.trans (hb.mono HB.size)
  clear hb
  refine Fw.bT (by rfl) ?_
  refine Fw.s (Fw.val_not rfl) rfl ?_
  refine Fw.nil ?_
  refine hK3 _ _ ?_
  refine Fw.condF rfl ?_
  refine Fw.skip ?_
  refine hK2 _ _ ?_
  refine Fw.seq fun _ hK4 => ?_
  refine Fw.seq fun _ hK5 => ?_
  refine Fw.region ?_
  refine Fw.s (Fw.val_move rfl) rfl ?_
  refine Fw.call cf11 rfl rfl (jsmall_any _ A l c (h.low HB) hlm 20 (by decide) hbig) ?_
  rintro e_ w2 ⟨rfl, hb⟩
  refine ⟨_, rfl, ?_⟩
  replace HB := HB.trans (hb.mono HB.size)
  clear hb
  refine Fw.b2 ?_ ?_
  · rintro hsm
    refine Fw.s (Fw.val_not rfl) rfl ?_
    refine Fw.nil ?_
    refine hK5 _ _ ?_
    refine Fw.condF rfl ?_
    refine Fw.skip ?_
    refine hK4 _ _ (Fw.FC.sub (f' := [(0, _), (1, _)]) (.cons rfl (.cons rfl .nil)) ?_)
    refine Fw.seq fun _ hK6 => ?_
    obtain ⟨hl20, hbs⟩ := small_use hsm
    have hokl := okL_of hok hbs
    refine Fw.region ?_
    refine Fw.call cf18 rfl rfl (new_any _) ?_
    rintro e_ w3 ⟨rfl, HF, hb⟩
    refine ⟨_, rfl, ?_⟩
    obtain ⟨B, hBe⟩ : ∃ B, B = w2.heap.size := ⟨_, rfl⟩
    rw [← hBe] at HF ⊢
    have hBn : w.heap.size ≤ B := by rw [hBe]; exact HB.size
    replace HB := HB.trans (hb.mono HB.size)
    clear hb
    refine Fw.call cf20 rfl rfl (open_any _ B B _ [] 0 HF (by simp; try omega) (by first | assumption | (intro x hx; cases hx))) ?_
    rintro e_ w4 ⟨p, g1, L, n, rfl, hV, HJ, hLn, hbB⟩
    refine ⟨_, rfl, ?_⟩
    replace HB := HB.trans (hbB.mono hBn)
    clear hbB HF
    refine Fw.s (Fw.val_move rfl) rfl ?_
    refine Fw.s (Fw.val_extract rfl rfl) rfl ?_
    refine Fw.s (Fw.val_extract rfl rfl) rfl ?_
    refine Fw.s (Fw.val_assign rfl) rfl ?_
    refine Fw.s (Fw.val_assign rfl) rfl ?_
    refine Fw.nil ?_
    refine hK6 _ _ ?_
    refine Fw.seq fun _ hK7 => ?_
    refine Fw.seq fun _ hK8 => ?_
    refine Fw.region ?_
    refine Fw.s (Fw.val_move rfl) rfl ?_
    refine Fw.s (Fw.Val.F (Fw.val_bin rfl rfl Fw.b_neq) (by exact fun h_ => h_ rfl)) rfl ?_
    refine Fw.nil ?_
    refine hK8 _ _ (Fw.FC.sub (f' := [(22, _), (5, _), (0, _), (1, _)]) (.cons rfl (.cons rfl (.cons rfl (.cons rfl .nil)))) ?_)
    refine Fw.condF rfl ?_
    refine Fw.skip ?_
    refine hK7 _ _ ?_
    refine Fw.seq fun _ hK9 => ?_
    refine Fw.seq fun _ hK10 => ?_
    refine Fw.region ?_
    refine Fw.s (Fw.val_move rfl) rfl ?_
    refine Fw.s (Fw.val_len Try.underlying22 rfl) rfl ?_
    refine Fw.s (Fw.val_move rfl) rfl ?_
    refine Fw.nil ?_
    refine hK10 _ _ ?_
    refine Fw.block ?_
    obtain ⟨hLe, rfl⟩ := Jr.val_nil hV
    obtain rfl : L = [] := List.map_eq_nil_iff.1 hLe
    replace HJ : JAt w4 B p B g1 ⟨Jr.encs Jr.s0 (rs (l.take 0)), 0, false⟩ [] := HJ
    refine Fw.loop (fun m_ f_ W_ => ∃ (k : Nat) (g_ : Option Nat) (L_ : List Rv), m_ = l.length - k ∧ k ≤ l.length ∧ rs L_ = rs (l.take k) ∧ JAt W_ B p B g_ ⟨Jr.encs Jr.s0 (rs (l.take k)), 0, false⟩ L_ ∧ Below (w.heap.size) w W_ ∧ f_ = [(25, .int .i64 k), (24, .int .i64 l.length), (23, .slice A l.length c), (5, .pointer (some ⟨p, 0, none⟩)), (0, .slice A l.length c), (1, .int .i64 n)]) ⟨_, _, ⟨0, g1, [], rfl, Nat.zero_le _, rfl, HJ, HB, rfl⟩, (.cons rfl (.cons rfl (.cons rfl (.cons rfl (.cons rfl (.cons rfl .nil))))))⟩ ?_
    clear HJ HB
    rintro m11_ _ w5 ⟨k, g_, L_, hm11_, hkl, hL, HJ, HB, rfl⟩
    refine Fw.seq fun _ hK12 => ?_
    refine Fw.region ?_
    refine Fw.s2 (Fw.val_bin rfl rfl Fw.b_lss) rfl ?_ ?_
    · rintro hk
      refine Fw.nil ?_
      refine hK12 _ _ ?_
      refine Fw.seq fun _ hK14 => ?_
      refine Fw.condT rfl ?_
      refine Fw.skip ?_
      refine hK14 _ _ ?_
      refine Fw.seq fun _ hK15 => ?_
      refine Fw.block ?_
      refine Fw.seq fun _ hK16 => ?_
      have hkn : k < l.length := by omega
      have hbk := hbs _ (List.getElem_mem hkn)
      have hLl : L_.length = k := by rw [← rs_len, hL, rs_len, List.length_take]; omega
      have hen : (Jr.encs Jr.s0 (rs (l.take k))).length ≤ 164400 := Nat.le_trans (encs_le (fun v hv => hbs v (List.mem_of_mem_take hv)) Jr.s0) (by rw [List.length_take]; omega)
      obtain ⟨ad, b_, o_, hA, hadd, HE⟩ := Fw.rdAt Rv.len (by decide) (h.low HB).1 k hkn
      refine Fw.region ?_
      refine Fw.s (Fw.val_indexR Try.underlying22 sz28 rfl hA rfl rfl hkn hadd) rfl ?_
      refine Fw.ldA ag28 rfl (HE) rfl rfl ?_
      refine Fw.alloc ze28 rfl ?_
      intro w6 gXv egXv HXv hb
      have hBx : B ≤ gXv := by have := HJ.lt; omega
      have lgXv : w.heap.size ≤ gXv := by have := HB.size; omega
      clear HE
      replace HJ := HJ.low hb
      replace HB := HB.trans (hb.mono HB.size)
      clear hb
      clear egXv
      refine Fw.storeW sz28 rfl rfl HXv rfl rfl (by exact Fw.oneCells rfl) ?_
      intro w7 N_ hc
      replace HJ := HJ.keep (Kf.box (B := B) (g := none) HXv hc hBx)
      replace HB := HB.trans (hc.below (B := w.heap.size) (fun k e => by omega) HB.size)
      clear hc
      clear HXv
      have HXv := N_
      clear N_
      refine Fw.nil ?_
      refine hK16 _ _ ?_
      refine Fw.seq fun _ hK18 => ?_
      refine Fw.region ?_
      refine Fw.s (Fw.val_move rfl) rfl ?_
      refine Fw.ldA ag28 rfl (Fw.rdBlk HXv) rfl rfl ?_
      refine Fw.call cf12 rfl rfl (jown_any _ l[k].k l[k].A l[k].b.length l[k].c) ?_
      rintro e_ w8 ⟨rfl, hb⟩
      refine ⟨_, rfl, ?_⟩
      replace HJ := HJ.low hb
      replace HXv := HXv.low hb
      replace HB := HB.trans (hb.mono HB.size)
      clear hb
      refine Fw.call cf24 rfl rfl (jappend_any _ B p _ _ ⟨Jr.encs Jr.s0 (rs (l.take k)), 0, false⟩ L_ l[k].k l[k].A l[k].b l[k].c HJ (Bod.old (h.at k hkn) hBn HB) (by show (Jr.encs Jr.s0 (rs (l.take k))).length ≤ _; omega) (by omega)) ?_
      rintro e_ w9 ⟨g2, L2, rfl, HJ2, hL2, hk, hg2⟩
      refine ⟨_, rfl, ?_⟩
      replace HXv := HXv.kf hk (by decide) (by decide)
      replace HB := HB.trans (hk.low.mono hBn)
      clear hk HJ
      have HJ := HJ2
      clear HJ2
      obtain ⟨e1, e2, e3⟩ := Jr.ap_ok (D := Jr.encs Jr.s0 (rs (l.take k))) (n := 0) (s := Jr.sealF Jr.s0 (rs L_)) (r := ⟨l[k].k, l[k].b⟩) (by show l[k].b.length ≤ _; omega) (by have := Jr.one_le (s := Jr.sealF Jr.s0 (rs L_)) (r := ⟨l[k].k, l[k].b⟩) (by show l[k].b.length ≤ _; omega); omega)
      rw [e1]
      rw [e2, hL, ← show Jr.encs Jr.s0 (rs (l.take (k + 1))) = Jr.encs Jr.s0 (rs (l.take k)) ++ Jr.one (Jr.sealF Jr.s0 (rs (l.take k))) ⟨l[k].k, l[k].b⟩ by rw [rs_snoc l k hkn, Jr.encs_snoc]; rfl] at HJ
      rw [e3, hL, ← show rs (l.take (k + 1)) = rs (l.take k) ++ [(⟨l[k].k, l[k].b⟩ : Jr.R)] from rs_snoc l k hkn] at hL2
      refine Fw.s (Fw.Val.F (Fw.val_bin rfl rfl Fw.b_neq) (by exact fun h_ => h_ rfl)) rfl ?_
      refine Fw.nil ?_
      refine hK18 _ _ (Fw.FC.sub (f' := [(33, _), (25, _), (24, _), (23, _), (5, _), (0, _), (1, _)]) (.cons rfl (.cons rfl (.cons rfl (.cons rfl (.cons rfl (.cons rfl (.cons rfl .nil))))))) ?_)
      refine Fw.condF rfl ?_
      refine Fw.skip ?_
      refine Fw.X_blockN ?_
      refine hK15 _ _ ?_
      refine Fw.region ?_
      refine Fw.s (Fw.val_bin rfl rfl (Fw.b_add (Fw.i64_ok (by omega)))) rfl ?_
      refine Fw.s (Fw.val_move rfl) rfl ?_
      refine Fw.nil ?_
      refine Fw.roundEnd _ _ (by omega) ⟨k + 1, g2, L2, rfl, hkn, hL2, HJ, HB, rfl⟩ (.cons rfl (.cons rfl (.cons rfl (.cons rfl (.cons rfl (.cons rfl .nil))))))
    · rintro hk
      refine Fw.nil ?_
      refine hK12 _ _ ?_
      refine Fw.seq fun _ hK19 => ?_
      refine Fw.condF rfl ?_
      refine Fw.exit ?_
      refine Fw.X_exit ?_
      refine Fw.X_exit ?_
      refine Fw.X_block ?_
      refine hK9 _ _ ?_
      refine Fw.seq fun _ hK20 => ?_
      obtain rfl : k = l.length := by omega
      rw [List.take_length] at hL
      refine Fw.region ?_
      refine Fw.s (Fw.val_move rfl) rfl ?_
      refine Fw.s (Fw.val_move rfl) rfl ?_
      refine Fw.call cf27 rfl rfl (jchecksum_any _ B p B _ _ L_ n HJ) ?_
      rintro e_ _ ⟨rfl, rfl⟩
      refine ⟨_, rfl, ?_⟩
      rw [hL]
      refine Fw.s (Fw.val_move rfl) rfl ?_
      refine Fw.s (Fw.val_extract rfl rfl) rfl ?_
      refine Fw.s (Fw.val_extract rfl rfl) rfl ?_
      refine Fw.b2 ?_ ?_
      · rintro hck
        refine Fw.s (Fw.val_assign rfl) rfl ?_
        refine Fw.s (Fw.val_assign rfl) rfl ?_
        refine Fw.nil ?_
        refine hK20 _ _ (Fw.FC.sub (f' := [(10, _), (9, _), (0, _), (1, _)]) (.cons rfl (.cons rfl (.cons rfl (.cons rfl .nil)))) ?_)
        refine Fw.seq fun _ hK21 => ?_
        refine Fw.seq fun _ hK22 => ?_
        have hck2 : 0 ≤ n ∧ n ≤ (l.length : Nat) := by have := of_decide_eq_true hck; rw [rs_len] at this; exact this
        refine Fw.region ?_
        refine Fw.s (Fw.val_move rfl) rfl ?_
        refine Fw.s (Fw.Val.F (Fw.val_bin rfl rfl Fw.b_lss) (by omega)) rfl ?_
        refine Fw.s (Fw.val_move rfl) rfl ?_
        refine Fw.gT (d := 43) rfl rfl ?_
        refine Fw.s (Fw.val_move rfl) rfl ?_
        refine Fw.gT (d := 43) rfl rfl ?_
        refine Fw.s (Fw.val_move rfl) rfl ?_
        refine Fw.gT (d := 43) rfl rfl ?_
        refine Fw.s (Fw.val_len Try.underlying22 rfl) rfl ?_
        refine Fw.gT (d := 43) rfl rfl ?_
        refine Fw.s (Fw.Val.F (Fw.val_bin rfl rfl Fw.b_gtr) (by omega)) rfl ?_
        refine Fw.s (Fw.val_pickF rfl rfl) rfl ?_
        refine Fw.nil ?_
        refine hK22 _ _ (Fw.FC.sub (f' := [(48, _), (10, _), (9, _), (0, _), (1, _)]) (.cons rfl (.cons rfl (.cons rfl (.cons rfl (.cons rfl .nil))))) ?_)
        refine Fw.condF rfl ?_
        refine Fw.skip ?_
        refine hK21 _ _ ?_
        refine Fw.seq fun _ hK23 => ?_
        refine Fw.region ?_
        refine Fw.s (Fw.val_move rfl) rfl ?_
        refine Fw.s (Fw.val_move rfl) rfl ?_
        refine Fw.gT (d := 56) rfl rfl ?_
        refine Fw.s (Fw.val_move rfl) rfl ?_
        refine Fw.gT (d := 56) rfl rfl ?_
        refine Fw.s (Fw.val_move rfl) rfl ?_
        refine Fw.gT (d := 56) rfl rfl ?_
        refine Fw.s (Fw.val_move rfl) rfl ?_
        refine Fw.gT (d := 56) rfl rfl ?_
        refine Fw.s (Fw.val_sliceTo (m := n.toNat) Try.underlying22 sz28 rfl rfl (by omega) (by omega)) rfl ?_
        refine Fw.gT (d := 56) rfl rfl ?_
        refine Fw.call cf16 rfl rfl (by have := seal_any w5 A (l.take n.toNat) c ((h.low HB).take _) (by rw [List.length_take]; omega) (fun r hr => by rw [rs_take] at hr; exact hokl r (List.mem_of_mem_take hr)); rw [show (l.take n.toNat).length = n.toNat by rw [List.length_take]; omega] at this; exact this) ?_
        rintro e_ w10 ⟨rfl, hb⟩
        refine ⟨_, rfl, ?_⟩
        replace HJ := HJ.low hb
        replace HB := HB.trans (hb.mono HB.size)
        clear hb
        refine Fw.gT (d := 56) rfl rfl ?_
        refine Fw.s (Fw.Val.T (Fw.val_bin rfl rfl Fw.b_eql) (by unfold Jr.ckV; rw [if_pos (by rw [rs_len]; exact hck2), rs_take])) rfl ?_
        refine Fw.s (Fw.val_pickT rfl rfl) rfl ?_
        refine Fw.s (Fw.val_assign rfl) rfl ?_
        refine Fw.nil ?_
        refine hK23 _ _ (Fw.FC.sub (f' := [(4, _)]) (.cons rfl .nil) ?_)
        refine Fw.ret ?_
        refine Fw.ret_ [.tmp 4] [_] Try.results7 (.tmp rfl .nil) ?_
        exact ⟨rfl, HB⟩
      · rintro hck
        refine Fw.s (Fw.val_assign rfl) rfl ?_
        refine Fw.s (Fw.val_assign rfl) rfl ?_
        refine Fw.nil ?_
        refine hK20 _ _ (Fw.FC.sub (f' := [(10, _), (9, _), (0, _), (1, _)]) (.cons rfl (.cons rfl (.cons rfl (.cons rfl .nil)))) ?_)
        refine Fw.seq fun _ hK24 => ?_
        refine Fw.seq fun _ hK25 => ?_
        have hck2 : ¬ (0 ≤ n ∧ n ≤ (l.length : Nat)) := by have := of_decide_eq_false hck; rw [rs_len] at this; exact this
        refine Fw.region ?_
        refine Fw.s (Fw.val_move rfl) rfl ?_
        refine Fw.s2 (Fw.val_bin rfl rfl Fw.b_lss) rfl ?_ ?_
        · rintro hn0
          refine Fw.s (Fw.val_move rfl) rfl ?_
          refine Fw.gF (d := 43) rfl rfl rfl rfl ?_
          refine Fw.gF (d := 43) rfl rfl rfl rfl ?_
          refine Fw.gF (d := 43) rfl rfl rfl rfl ?_
          refine Fw.gF (d := 43) rfl rfl rfl rfl ?_
          refine Fw.s (Fw.val_pickT rfl rfl) rfl ?_
          refine Fw.nil ?_
          refine hK25 _ _ (Fw.FC.sub (f' := [(48, _), (10, _), (9, _), (0, _), (1, _)]) (.cons rfl (.cons rfl (.cons rfl (.cons rfl (.cons rfl .nil))))) ?_)
          refine Fw.condT rfl ?_
          refine Fw.seq fun _ hK27 => ?_
          refine Fw.region ?_
          refine Fw.s (Fw.val_move rfl) rfl ?_
          refine Fw.s (Fw.val_not rfl) rfl ?_
          refine Fw.s (Fw.val_move rfl) rfl ?_
          refine Fw.gT (d := 51) rfl rfl ?_
          refine Fw.s (Fw.val_move rfl) rfl ?_
          refine Fw.gT (d := 51) rfl rfl ?_
          refine Fw.s (Fw.Val.T (Fw.val_bin rfl rfl Fw.b_eql) (by unfold Jr.ckV; rw [if_neg (by rw [rs_len]; exact hck2)])) rfl ?_
          refine Fw.s (Fw.val_pickT rfl rfl) rfl ?_
          refine Fw.s (Fw.val_assign rfl) rfl ?_
          refine Fw.nil ?_
          refine hK27 _ _ (Fw.FC.sub (f' := [(4, _)]) (.cons rfl .nil) ?_)
          refine Fw.ret ?_
          refine Fw.X_ret ?_
          refine Fw.ret_ [.tmp 4] [_] Try.results7 (.tmp rfl .nil) ?_
          exact ⟨rfl, HB⟩
        · rintro hn0
          refine Fw.s (Fw.val_move rfl) rfl ?_
          refine Fw.gT (d := 43) rfl rfl ?_
          refine Fw.s (Fw.val_move rfl) rfl ?_
          refine Fw.gT (d := 43) rfl rfl ?_
          refine Fw.s (Fw.val_move rfl) rfl ?_
          refine Fw.gT (d := 43) rfl rfl ?_
          refine Fw.s (Fw.val_len Try.underlying22 rfl) rfl ?_
          refine Fw.gT (d := 43) rfl rfl ?_
          refine Fw.s (Fw.Val.T (Fw.val_bin rfl rfl Fw.b_gtr) (by omega)) rfl ?_
          refine Fw.s (Fw.val_pickF rfl rfl) rfl ?_
          refine Fw.nil ?_
          refine hK25 _ _ (Fw.FC.sub (f' := [(48, _), (10, _), (9, _), (0, _), (1, _)]) (.cons rfl (.cons rfl (.cons rfl (.cons rfl (.cons rfl .nil))))) ?_)
          refine Fw.condT rfl ?_
          refine Fw.seq fun _ hK28 => ?_
          refine Fw.region ?_
          refine Fw.s (Fw.val_move rfl) rfl ?_
          refine Fw.s (Fw.val_not rfl) rfl ?_
          refine Fw.s (Fw.val_move rfl) rfl ?_
          refine Fw.gT (d := 51) rfl rfl ?_
          refine Fw.s (Fw.val_move rfl) rfl ?_
          refine Fw.gT (d := 51) rfl rfl ?_
          refine Fw.s (Fw.Val.T (Fw.val_bin rfl rfl Fw.b_eql) (by unfold Jr.ckV; rw [if_neg (by rw [rs_len]; exact hck2)])) rfl ?_
          refine Fw.s (Fw.val_pickT rfl rfl) rfl ?_
          refine Fw.s (Fw.val_assign rfl) rfl ?_
          refine Fw.nil ?_
          refine hK28 _ _ (Fw.FC.sub (f' := [(4, _)]) (.cons rfl .nil) ?_)
          refine Fw.ret ?_
          refine Fw.X_ret ?_
          refine Fw.ret_ [.tmp 4] [_] Try.results7 (.tmp rfl .nil) ?_
          exact ⟨rfl, HB⟩
  · rintro hsm
    refine Fw.s (Fw.val_not rfl) rfl ?_
    refine Fw.nil ?_
    refine hK5 _ _ ?_
    refine Fw.condT rfl ?_
    refine Fw.seq fun _ hK29 => ?_
    refine Fw.region ?_
    refine Fw.s (Fw.val_assign rfl) rfl ?_
    refine Fw.nil ?_
    refine hK29 _ _ (Fw.FC.sub (f' := [(4, _)]) (.cons rfl .nil) ?_)
    refine Fw.ret ?_
    refine Fw.X_ret ?_
    refine Fw.ret_ [.tmp 4] [_] Try.results7 (.tmp rfl .nil) ?_
    exact ⟨rfl, HB⟩

end Go.Proofs.Ytnljnnnplfjnhaa
