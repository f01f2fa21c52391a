/- TopElects: vote records. -/
import Derived.Test.YtgpdodhegacndaaVr
import Derived.Test.YtgpdodhegacndaaElC
namespace Go.Proofs.Ytgpdodhegacndaa
set_option linter.unusedSimpArgs false
set_option linter.unusedVariables false
open Go.RowKit

theorem readEnc_any (w : World) (p : Nat) (n : Int) (l : List Int) (h : RdAt w p ⟨Wr.enc n ++ l, 0⟩) (hn : Wr.I64 n) (hb : Wr.Bts (Wr.enc n ++ l)) :
    Calls Try.prog 39 #[.pointer (some ⟨p, 0, none⟩)] w fun e w' => e = .returned (.int .i64 n) ∧ RdAt w' p ⟨l, 0⟩ ∧ Chg (· = p) w w' := by
  have h1 := Wr.rd_enc hn l
  refine (readInt_any w p _ h hb).mono fun e w' hR => ?_
  rw [h1.1, h1.2] at hR
  exact hR
theorem finish0_any (w : World) (p : Nat) (h : RdAt w p ⟨[], 0⟩) : Calls Try.prog 40 #[.pointer (some ⟨p, 0, none⟩)] w fun e w' => e = .returned (.int .i64 0) ∧ w = w' := finish_any w p _ h
theorem Vr.rise_take {V : List (Int × Int)} (h : Vr.Good V) {k : Nat} (hk : k < V.length) : Vr.term (V.take k) < V[k].1 := by
  have h1 := (h.2 V[k] (List.getElem_mem hk)).1
  rcases (h.take k).mem_last with e | ⟨U, v, e, e1, _, _⟩
  · rw [e]; show (0 : Int) < _; omega
  · rw [e1]
    have hv : v ∈ V.take k := by rw [e]; simp
    obtain ⟨j, hj, ej⟩ := List.getElem_of_mem hv
    rw [List.length_take] at hj
    have := List.pairwise_iff_getElem.1 h.1 j k (by omega) hk (by omega)
    rw [List.getElem_take] at ej
    rw [ej] at this; exact this

set_option maxRecDepth 100000 in
set_option maxHeartbeats 1000000 in
theorem syncV_any (w : World) (o : Nat → Nat) (i pf p n : Nat) (V : List (Int × Int)) (h : Vr.JS w o i pf p n V) : Calls Try.prog 42 #[.pointer (some ⟨p, 0, none⟩)] w fun e_ w' => e_ = .returned (.int .i64 0) ∧ Vr.JS w' (Vr.up o w.heap.size i) i pf p (Vr.D V).length V ∧ Chg (fun k => o k = i) w w' ∧ ∀ x cs, Blk w x 71 cs → Blk w' x 71 cs := by
  obtain ⟨g, L, h1, h2, h3, h4, h5⟩ := h
  have hl := Vr.D_len h5
  have h0 := h1
  obtain ⟨hBp, HF, A1, c1, A2, c2, HJ, HO, HU⟩ := h1
  refine Fw.calls Try.func42 rfl Try.ntmps42 rfl ?_
  refine Fw.seq fun _ hK1 => ?_
  refine Fw.region ?_
  refine Fw.s (Fw.val_assign rfl) rfl ?_
  refine Fw.nil ?_
  refine hK1 _ _ ?_
  refine Fw.seq fun _ hK2 => ?_
  refine Fw.region ?_
  refine Fw.s (Fw.val_move rfl) rfl ?_
  refine Fw.s (Fw.val_nil rfl) rfl ?_
  refine Fw.s (Fw.val_fieldAddr fl62_0 rfl rfl) rfl ?_
  refine Fw.ld sc30 rfl (HJ.cell 0) rfl ?_
  refine Fw.call cf23 rfl rfl (sync_any _ 0 pf g _ HF (by show (Vr.D V).length ≤ _; omega)) ?_
  rintro e_ w1 ⟨rfl, hto⟩
  refine ⟨_, rfl, ?_⟩
  refine Fw.s (Fw.val_assign rfl) rfl ?_
  refine Fw.nil ?_
  refine hK2 _ _ (Fw.FC.sub (f' := [(2, _)]) (.cons rfl .nil) ?_)
  refine Fw.ret ?_
  refine Fw.ret_ [.tmp 2] [_] Try.results42 (.tmp rfl .nil) ?_
  obtain ⟨g2, hj, hc, hs, hx⟩ := h0.fileX hto
  exact ⟨rfl, Vr.JS.sub h3 h4 (fun v hv hb ad e => (HO.2 v hv).lt hb e) hj h2 h5 hs, hc.mono (fun k _ e => h3 k e), hx⟩

set_option maxRecDepth 100000 in
set_option maxHeartbeats 1000000 in
theorem restoreVote_any (w : World) (r : Nat) (q : Option Addr) (t0 v0 t n : Int) (A : Option Addr) (c : Nat) (hr : Rd w A ((Wr.enc t ++ Wr.enc n).map (.int .u8))) (HB1 : Blk w r 71 #[.pointer q, .int .i64 t0, .int .i64 v0]) (ht : 1 ≤ t ∧ t ≤ 4) (hn : 0 ≤ n ∧ n ≤ 2) (hlt : t0 < t) : Calls Try.prog 26 #[.pointer (some ⟨r, 0, none⟩), .slice A (Wr.enc t ++ Wr.enc n).length c] w fun e_ w' => e_ = .returned (.bool true) ∧ Blk w' r 71 #[.pointer q, .int .i64 t, .int .i64 n] ∧ Chg (· = r) w w' := by
  have hIt : Wr.I64 t := Vr.i64 (by omega)
  have hIn : Wr.I64 n := Vr.i64 (by omega)
  have hbb : Wr.Bts (Wr.enc t ++ Wr.enc n) := (Vr.rec1_ok (t, n)).2
  have hbn : Wr.Bts (Wr.enc n ++ []) := by rw [List.append_nil]; exact Wr.enc_bts n
  have hbl := Vr.rec1_len (v := (t, n)) ⟨ht, hn⟩
  have hbl2 : (Wr.enc t ++ Wr.enc n).length ≤ 20 := hbl
  refine Fw.calls Try.func26 rfl Try.ntmps26 rfl ?_
  have HC := Chg.refl (· = r) w
  refine Fw.seq fun _ hK1 => ?_
  refine Fw.region ?_
  refine Fw.s (Fw.val_assign rfl) rfl ?_
  refine Fw.nil ?_
  refine hK1 _ _ ?_
  refine Fw.seq fun _ hK2 => ?_
  refine Fw.region ?_
  refine Fw.s (Fw.val_move rfl) rfl ?_
  refine Fw.call cf38 rfl rfl (newReader_any _ A (Wr.enc t ++ Wr.enc n) c hr (by omega)) ?_
  rintro e_ w1 ⟨pr, rfl, lpr, HRd, hb⟩
  refine ⟨_, rfl, ?_⟩
  have n_r_pr : r < pr := by have := HB1.lt; omega
  replace HB1 := HB1.low hb
  replace HC := HC.trans (Chg.of_below hb (· = r)) (fun _ _ h => h)
  clear hb
  refine Fw.s (Fw.val_assign rfl) rfl ?_
  refine Fw.nil ?_
  refine hK2 _ _ ?_
  refine Fw.seq fun _ hK3 => ?_
  refine Fw.region ?_
  refine Fw.s (Fw.val_move rfl) rfl ?_
  refine Fw.call cf39 rfl rfl (readEnc_any _ pr t (Wr.enc n) HRd hIt hbb) ?_
  rintro e_ w2 ⟨rfl, HRd2, hc_⟩
  refine ⟨_, rfl, ?_⟩
  replace HB1 := HB1.chg hc_ (by omega)
  replace HC := HC.trans hc_ (fun k hk_ e => by exfalso; omega)
  clear HRd hc_
  have HRd := HRd2
  clear HRd2
  rw [← List.append_nil (Wr.enc n)] at HRd
  refine Fw.s (Fw.val_move rfl) rfl ?_
  refine Fw.call cf39 rfl rfl (readEnc_any _ pr n [] HRd hIn hbn) ?_
  rintro e_ w3 ⟨rfl, HRd2, hc_⟩
  refine ⟨_, rfl, ?_⟩
  replace HB1 := HB1.chg hc_ (by omega)
  replace HC := HC.trans hc_ (fun k hk_ e => by exfalso; omega)
  clear HRd hc_
  have HRd := HRd2
  clear HRd2
  refine Fw.s (Fw.val_assign rfl) rfl ?_
  refine Fw.s (Fw.val_assign rfl) rfl ?_
  refine Fw.nil ?_
  refine hK3 _ _ (Fw.FC.sub (f' := [(7, _), (6, _), (5, _), (0, _)]) (.cons rfl (.cons rfl (.cons rfl (.cons rfl .nil)))) ?_)
  refine Fw.seq fun _ hK4 => ?_
  refine Fw.seq fun _ hK5 => ?_
  refine Fw.region ?_
  refine Fw.s (Fw.val_move rfl) rfl ?_
  refine Fw.call cf40 rfl rfl (finish0_any _ pr HRd) ?_
  rintro e_ _ ⟨rfl, rfl⟩
  refine ⟨_, rfl, ?_⟩
  refine Fw.s (Fw.Val.F (Fw.val_bin rfl rfl Fw.b_neq) (by decide)) rfl ?_
  refine Fw.s (Fw.val_move rfl) rfl ?_
  refine Fw.gT (d := 17) rfl rfl ?_
  refine Fw.s (Fw.val_move rfl) rfl ?_
  refine Fw.gT (d := 17) rfl rfl ?_
  refine Fw.call cf27 rfl rfl (validTerm_any t _) ?_
  rintro e_ _ ⟨b19, rfl, h19, rfl⟩
  refine ⟨_, rfl, ?_⟩
  refine Fw.bT (by exact h19.2 ⟨by omega, by omega⟩) ?_
  refine Fw.gT (d := 17) rfl rfl ?_
  refine Fw.s (Fw.val_not rfl) rfl ?_
  refine Fw.s (Fw.val_pickF rfl rfl) rfl ?_
  refine Fw.s (Fw.val_move rfl) rfl ?_
  refine Fw.gT (d := 22) rfl rfl ?_
  refine Fw.s (Fw.val_move rfl) rfl ?_
  refine Fw.gT (d := 22) rfl rfl ?_
  refine Fw.call cf28 rfl rfl (validNode_any n _) ?_
  rintro e_ _ ⟨b24, rfl, h24, rfl⟩
  refine ⟨_, rfl, ?_⟩
  refine Fw.bT (by exact h24.2 ⟨by omega, by omega⟩) ?_
  refine Fw.gT (d := 22) rfl rfl ?_
  refine Fw.s (Fw.val_not rfl) rfl ?_
  refine Fw.s (Fw.val_pickF rfl rfl) rfl ?_
  refine Fw.nil ?_
  refine hK5 _ _ (Fw.FC.sub (f' := [(26, _), (7, _), (6, _), (0, _)]) (.cons rfl (.cons rfl (.cons rfl (.cons rfl .nil)))) ?_)
  refine Fw.condF rfl ?_
  refine Fw.skip ?_
  refine hK4 _ _ ?_
  refine Fw.seq fun _ hK6 => ?_
  refine Fw.seq fun _ hK7 => ?_
  refine Fw.region ?_
  refine Fw.s (Fw.val_move rfl) rfl ?_
  refine Fw.s (Fw.val_move rfl) rfl ?_
  refine Fw.s (Fw.val_nil rfl) rfl ?_
  refine Fw.s (Fw.val_fieldAddr fl71_1 rfl rfl) rfl ?_
  refine Fw.ld sc2 rfl (HB1.cell 1) rfl ?_
  refine Fw.s (Fw.Val.F (Fw.val_bin rfl rfl Fw.b_lss) (by omega)) rfl ?_
  refine Fw.s (Fw.val_move rfl) rfl ?_
  refine Fw.gT (d := 33) rfl rfl ?_
  refine Fw.s (Fw.val_move rfl) rfl ?_
  refine Fw.gT (d := 33) rfl rfl ?_
  refine Fw.s (Fw.val_move rfl) rfl ?_
  refine Fw.gT (d := 33) rfl rfl ?_
  refine Fw.s (Fw.val_nil rfl) rfl ?_
  refine Fw.gT (d := 33) rfl rfl ?_
  refine Fw.s (Fw.val_fieldAddr fl71_1 rfl rfl) rfl ?_
  refine Fw.gT (d := 33) rfl rfl ?_
  refine Fw.ld sc2 rfl (HB1.cell 1) rfl ?_
  refine Fw.gT (d := 33) rfl rfl ?_
  refine Fw.s (Fw.Val.F (Fw.val_bin rfl rfl Fw.b_eql) (by omega)) rfl ?_
  refine Fw.gT (d := 33) rfl rfl ?_
  refine Fw.s (Fw.val_move rfl) rfl ?_
  refine Fw.gF (d := 40) rfl rfl rfl rfl ?_
  refine Fw.gF (d := 40) rfl rfl rfl rfl ?_
  refine Fw.gF (d := 40) rfl rfl rfl rfl ?_
  refine Fw.gF (d := 40) rfl rfl rfl rfl ?_
  refine Fw.gF (d := 40) rfl rfl rfl rfl ?_
  refine Fw.gT (d := 33) rfl rfl ?_
  refine Fw.s (Fw.val_pickF rfl rfl) rfl ?_
  refine Fw.s (Fw.val_pickF rfl rfl) rfl ?_
  refine Fw.nil ?_
  refine hK7 _ _ (Fw.FC.sub (f' := [(47, _), (7, _), (6, _), (0, _)]) (.cons rfl (.cons rfl (.cons rfl (.cons rfl .nil)))) ?_)
  refine Fw.condF rfl ?_
  refine Fw.skip ?_
  refine hK6 _ _ ?_
  refine Fw.seq fun _ hK8 => ?_
  refine Fw.region ?_
  refine Fw.s (Fw.val_move rfl) rfl ?_
  refine Fw.s (Fw.val_move rfl) rfl ?_
  refine Fw.s (Fw.val_move rfl) rfl ?_
  refine Fw.s (Fw.val_move rfl) rfl ?_
  refine Fw.s (Fw.val_nil rfl) rfl ?_
  refine Fw.s (Fw.val_fieldAddr fl71_1 rfl rfl) rfl ?_
  refine Fw.store sz2 rfl rfl HB1 rfl rfl rfl ?_
  intro w4 N_ hc
  replace HC := HC.trans hc (fun k hk_ e => by first | exact e | (left; exact e) | (right; exact e) | (exfalso; omega))
  clear hc
  clear HB1
  have HB1 := N_
  clear N_
  refine Fw.s (Fw.val_nil rfl) rfl ?_
  refine Fw.s (Fw.val_fieldAddr fl71_2 rfl rfl) rfl ?_
  refine Fw.store sz3 rfl rfl HB1 rfl rfl rfl ?_
  intro w5 N_ hc
  replace HC := HC.trans hc (fun k hk_ e => by first | exact e | (left; exact e) | (right; exact e) | (exfalso; omega))
  clear hc
  clear HB1
  have HB1 := N_
  clear N_
  refine Fw.nil ?_
  refine hK8 _ _ (Fw.FC.sub (f' := []) .nil ?_)
  refine Fw.seq fun _ hK9 => ?_
  refine Fw.region ?_
  refine Fw.s (Fw.val_assign rfl) rfl ?_
  refine Fw.nil ?_
  refine hK9 _ _ ?_
  refine Fw.ret ?_
  refine Fw.ret_ [.tmp 4] [_] Try.results26 (.tmp rfl .nil) ?_
  exact ⟨rfl, HB1, HC⟩

set_option maxRecDepth 100000 in
set_option maxHeartbeats 1000000 in
theorem vopen_any (w : World) (o : Nat → Nat) (i pf p : Nat) (V : List (Int × Int)) (h : Vr.JS w o i pf p (Vr.D V).length V) : Calls Try.prog 8 #[.pointer (some ⟨p, 0, none⟩)] w fun e_ w' => ∃ r, e_ = .returned (.tuple #[.pointer (some ⟨r, 0, none⟩), .int .i64 0]) ∧ Vr.VAt w' (Vr.up o w.heap.size i) i pf r V ∧ Below w.heap.size w w' := by
  have HS0 := h.own (o' := Vr.up o w.heap.size i) (fun k hk => Vr.up_lt hk)
  obtain ⟨g, L, h1, h2, h3, h4, h5⟩ := h
  have hLl : L.length ≤ 4 := by have := h5.len; rw [← Vr.recs_len, ← h2, rs_len] at this; exact this
  have hLb : ∀ v ∈ L, v.b.length ≤ 100000 := fun v hv => by
    have : v.r ∈ Vr.recs V := by rw [← h2]; exact List.mem_map.2 ⟨v, hv, rfl⟩
    have := (Vr.recs_ok h5 _ this).2
    have e : v.r.b = v.b := rfl
    rw [e] at this; omega
  refine Fw.calls Try.func8 rfl Try.ntmps8 rfl ?_
  have HB := Below.refl (w.heap.size) w
  refine Fw.seq fun _ hK1 => ?_
  refine Fw.region ?_
  refine Fw.s (Fw.val_assign rfl) rfl ?_
  refine Fw.s (Fw.val_assign rfl) rfl ?_
  refine Fw.nil ?_
  refine hK1 _ _ ?_
  refine Fw.seq fun _ hK2 => ?_
  refine Fw.seq fun _ hK3 => ?_
  refine Fw.region ?_
  refine Fw.s (Fw.val_move rfl) rfl ?_
  refine Fw.s (Fw.val_bin rfl rfl (Fw.b_nilP Try.underlying34)) rfl ?_
  refine Fw.nil ?_
  refine hK3 _ _ ?_
  refine Fw.condF rfl ?_
  refine Fw.skip ?_
  refine hK2 _ _ ?_
  refine Fw.seq fun _ hK4 => ?_
  refine Fw.region ?_
  refine Fw.s (Fw.val_move rfl) rfl ?_
  refine Fw.s (Fw.val_build (ps := [(0, _), (2, _)]) rfl (bu71_0_2 _ _)) rfl ?_
  refine Fw.box rfl rfl ?_
  intro w1 gR egR HR hb
  have lgR : w.heap.size ≤ gR := by have := HB.size; omega
  replace HB := HB.trans (hb.mono HB.size)
  clear hb
  clear egR
  refine Fw.s (Fw.val_assign rfl) rfl ?_
  refine Fw.nil ?_
  refine hK4 _ _ (Fw.FC.sub (f' := [(4, _), (0, _)]) (.cons rfl (.cons rfl .nil)) ?_)
  refine Fw.seq fun _ hK5 => ?_
  refine Fw.seq fun _ hK6 => ?_
  refine Fw.region ?_
  refine Fw.s (Fw.val_move rfl) rfl ?_
  refine Fw.call cf24 rfl rfl (jrecords_any _ 0 p pf g _ L (h1.low HB) (by omega) hLb) ?_
  rintro e_ w2 ⟨L2, A14, c14, rfl, hL2, HO2, hb⟩
  refine ⟨_, rfl, ?_⟩
  replace HR := HR.low hb
  replace HB := HB.trans (hb.mono HB.size)
  clear hb
  have hlL : L2.length = V.length := by rw [← rs_len, hL2, h2, Vr.recs_len]
  have hl4 := h5.len
  refine Fw.s (Fw.val_len Try.underlying59 rfl) rfl ?_
  refine Fw.s (Fw.val_move rfl) rfl ?_
  refine Fw.nil ?_
  refine hK6 _ _ ?_
  refine Fw.block ?_
  refine Fw.loop (fun m_ f_ W_ => ∃ (k : Nat), m_ = V.length - k ∧ k ≤ V.length ∧ Blk W_ gR 71 #[.pointer (some ⟨p, 0, none⟩), .int .i64 (Vr.term (V.take k)), .int .i64 (Vr.voted (V.take k))] ∧ RecO W_ none w1.heap.size 0 64 A14 c14 L2 ∧ Below (w.heap.size) w W_ ∧ f_ = [(16, .int .i64 k), (15, .int .i64 L2.length), (14, .slice A14 L2.length c14), (4, .pointer (some ⟨gR, 0, none⟩))]) ⟨_, _, ⟨0, rfl, Nat.zero_le _, HR, HO2, HB, rfl⟩, (.cons rfl (.cons rfl (.cons rfl (.cons rfl .nil))))⟩ ?_
  clear HR HO2 HB
  rintro m7_ _ w3 ⟨k, hm7_, hk, HR, HO2, HB, rfl⟩
  refine Fw.seq fun _ hK8 => ?_
  refine Fw.region ?_
  refine Fw.s2 (Fw.val_bin rfl rfl Fw.b_lss) rfl ?_ ?_
  · rintro hkl
    refine Fw.nil ?_
    refine hK8 _ _ ?_
    refine Fw.seq fun _ hK10 => ?_
    refine Fw.condT rfl ?_
    refine Fw.skip ?_
    refine hK10 _ _ ?_
    refine Fw.seq fun _ hK11 => ?_
    refine Fw.block ?_
    refine Fw.seq fun _ hK12 => ?_
    have hk2 : k < V.length := by omega
    have hk3 : k < L2.length := by omega
    have hv : L2[k].r = Vr.rec1 V[k] := by
      rw [← rs_at L2 k hk3]
      have e : (rs L2)[k]'(by rw [rs_len]; exact hk3) = (Vr.recs V)[k]'(by rw [Vr.recs_len]; exact hk2) := by
        have := hL2.trans h2
        simp only [this]
      rw [e]; simp [Vr.recs]
    have hkk : L2[k].k = 86 := congrArg Jr.R.k hv
    have hkb : L2[k].b = Wr.enc V[k].1 ++ Wr.enc V[k].2 := congrArg Jr.R.b hv
    obtain ⟨ad, b_, o_, hA, hadd, HAe⟩ := Fw.rdAt Rv.len (by decide) HO2.recs.1 k hk3
    refine Fw.region ?_
    refine Fw.s (Fw.val_indexR Try.underlying59 sz64 rfl hA rfl rfl hk3 hadd) rfl ?_
    refine Fw.ldA ag64 rfl (HAe) rfl rfl ?_
    refine Fw.alloc ze64 rfl ?_
    intro w4 gX egX HX hb
    have hxo : ¬ some gX = (Value.slice A14 L2.length c14).ownBlock := HO2.out (by omega)
    have n_gR_gX : gR < gX := by have := HR.lt; omega
    have lgX : w.heap.size ≤ gX := by have := HB.size; omega
    clear HAe
    replace HR := HR.low hb
    replace HO2 := HO2.low hb (Nat.zero_le _)
    replace HB := HB.trans (hb.mono HB.size)
    clear hb
    clear egX
    refine Fw.storeW sz64 rfl rfl HX rfl rfl (by exact Fw.oneCells rfl) ?_
    intro w5 N_ hc
    replace HR := HR.chg hc (by omega)
    replace HO2 := HO2.box HX hc (Nat.zero_le _) (Nat.zero_le _) hxo (by decide)
    replace HB := HB.trans (hc.below (B := w.heap.size) (fun k e => by omega) HB.size)
    clear hc
    clear HX
    have HX := N_
    clear N_
    replace HX : Blk w5 gX 64 #[.int .u8 L2[k].k, .slice L2[k].A L2[k].b.length L2[k].c] := HX
    refine Fw.nil ?_
    refine hK12 _ _ ?_
    refine Fw.seq fun _ hK14 => ?_
    refine Fw.region ?_
    refine Fw.s (Fw.val_assign rfl) rfl ?_
    refine Fw.nil ?_
    refine hK14 _ _ ?_
    refine Fw.seq fun _ hK15 => ?_
    refine Fw.seq fun _ hK16 => ?_
    rw [hkk, hkb] at HX
    have hbd : Rd w5 L2[k].A ((Wr.enc V[k].1 ++ Wr.enc V[k].2).map (.int .u8)) := by have := (HO2.2 _ (List.getElem_mem hk3)).1; rw [hkb] at this; exact this
    refine Fw.region ?_
    refine Fw.s (Fw.val_fieldAddr fl64_0 rfl rfl) rfl ?_
    refine Fw.ld sc5 rfl (HX.cell 0) rfl ?_
    refine Fw.nil ?_
    refine hK16 _ _ ?_
    refine Fw.block ?_
    refine Fw.seq fun _ hK17 => ?_
    refine Fw.region ?_
    refine Fw.s (Fw.Val.F (Fw.val_bin rfl rfl Fw.b_eql) (by omega)) rfl ?_
    refine Fw.s (Fw.val_assign rfl) rfl ?_
    refine Fw.nil ?_
    refine hK17 _ _ ?_
    refine Fw.condF rfl ?_
    refine Fw.seq fun _ hK18 => ?_
    refine Fw.region ?_
    refine Fw.s (Fw.Val.T (Fw.val_bin rfl rfl Fw.b_eql) (by decide)) rfl ?_
    refine Fw.s (Fw.val_assign rfl) rfl ?_
    refine Fw.nil ?_
    refine hK18 _ _ (Fw.FC.sub (f' := [(28, _), (7, _), (6, _), (16, _), (15, _), (14, _), (4, _)]) (.cons rfl (.cons rfl (.cons rfl (.cons rfl (.cons rfl (.cons rfl (.cons rfl .nil))))))) ?_)
    refine Fw.condT rfl ?_
    refine Fw.region ?_
    refine Fw.s (Fw.val_move rfl) rfl ?_
    refine Fw.s (Fw.val_fieldAddr fl64_1 rfl rfl) rfl ?_
    refine Fw.ld sc56 rfl (HX.cell 1) rfl ?_
    refine Fw.call cf26 rfl rfl (restoreVote_any _ gR _ (Vr.term (V.take k)) (Vr.voted (V.take k)) V[k].1 V[k].2 L2[k].A L2[k].c hbd HR (h5.2 _ (List.getElem_mem hk2)).1 (h5.2 _ (List.getElem_mem hk2)).2 (Vr.rise_take h5 hk2)) ?_
    rintro e_ w6 ⟨rfl, HR2, hc_⟩
    refine ⟨_, rfl, ?_⟩
    clear hbd
    have HRo := HR
    replace HO2 := HO2.box HRo hc_ (Nat.zero_le _) (Nat.zero_le _) (HO2.type HRo (by decide)) (by decide)
    replace HB := HB.trans (hc_.below (fun k e => by omega) HB.size)
    clear HR HRo hc_
    have HR := HR2
    clear HR2
    refine Fw.s (Fw.val_assign rfl) rfl ?_
    refine Fw.nil ?_
    refine Fw.X_blockN ?_
    refine hK15 _ _ (Fw.FC.sub (f' := [(7, _), (16, _), (15, _), (14, _), (4, _)]) (.cons rfl (.cons rfl (.cons rfl (.cons rfl (.cons rfl .nil))))) ?_)
    refine Fw.seq fun _ hK19 => ?_
    refine Fw.region ?_
    refine Fw.s (Fw.val_move rfl) rfl ?_
    refine Fw.s (Fw.val_not rfl) rfl ?_
    refine Fw.nil ?_
    refine hK19 _ _ ?_
    refine Fw.condF rfl ?_
    refine Fw.skip ?_
    refine Fw.X_blockN ?_
    refine hK11 _ _ ?_
    refine Fw.region ?_
    refine Fw.s (Fw.val_bin rfl rfl (Fw.b_add (Fw.i64_ok (by omega)))) rfl ?_
    refine Fw.s (Fw.val_move rfl) rfl ?_
    refine Fw.nil ?_
    rw [show (V[k]'hk2).1 = Vr.term (V.take (k + 1)) by rw [List.take_succ_eq_append_getElem hk2, Vr.term_snoc], show (V[k]'hk2).2 = Vr.voted (V.take (k + 1)) by rw [List.take_succ_eq_append_getElem hk2, Vr.voted_snoc]] at HR
    refine Fw.roundEnd _ _ (by omega) ⟨k + 1, rfl, by omega, HR, HO2, HB, rfl⟩ (.cons rfl (.cons rfl (.cons rfl (.cons rfl .nil))))
  · rintro hkl
    refine Fw.nil ?_
    refine hK8 _ _ ?_
    refine Fw.seq fun _ hK20 => ?_
    refine Fw.condF rfl ?_
    refine Fw.exit ?_
    refine Fw.X_exit ?_
    refine Fw.X_exit ?_
    refine Fw.X_block ?_
    refine hK5 _ _ ?_
    refine Fw.seq fun _ hK21 => ?_
    refine Fw.region ?_
    refine Fw.s (Fw.val_move rfl) rfl ?_
    refine Fw.s (Fw.val_assign rfl) rfl ?_
    refine Fw.s (Fw.val_assign rfl) rfl ?_
    refine Fw.nil ?_
    refine hK21 _ _ ?_
    refine Fw.ret ?_
    refine Fw.ret_ [.tmp 2, .tmp 3] [_, _] Try.results8 (.tmp rfl (.tmp rfl .nil)) ?_
    rw [List.take_of_length_le (by omega)] at HR
    exact ⟨gR, rfl, ⟨p, HS0.keep (Chg.of_below HB (fun _ => False)) (fun _ _ h => h), HR, Vr.up_ge lgR⟩, HB⟩

set_option maxRecDepth 100000 in
set_option maxHeartbeats 1000000 in
theorem store_any (w : World) (o : Nat → Nat) (i pf r : Nat) (V : List (Int × Int)) (t n : Int) (A : Option Addr) (c base : Nat) (h : Vr.VAt w o i pf r V) (ht : 1 ≤ t ∧ t ≤ 4) (hn : 0 ≤ n ∧ n ≤ 2) (hlt : Vr.term V < t) (hE : w.ownsRow base 5 1 (.slice A (Wr.enc t ++ Wr.enc n).length c) (Wr.enc t ++ Wr.enc n).length ((Wr.enc t ++ Wr.enc n).map (.int .u8))) (hA : ∀ ad, A = some ad → o ad.block ≠ i) : Calls Try.prog 30 #[.pointer (some ⟨r, 0, none⟩), .int .u8 86, .slice A (Wr.enc t ++ Wr.enc n).length c] w fun e_ w' => e_ = .returned (.int .i64 0) ∧ ∃ p, Vr.JS w' (Vr.up o w.heap.size i) i pf p (Vr.D (V ++ [(t, n)])).length (V ++ [(t, n)]) ∧ Blk w' r 71 #[.pointer (some ⟨p, 0, none⟩), .int .i64 (Vr.term V), .int .i64 (Vr.voted V)] ∧ Chg (fun k => o k = i) w w' := by
  obtain ⟨p, HJ0, HR, hor⟩ := h
  refine Fw.calls Try.func30 rfl Try.ntmps30 rfl ?_
  refine Fw.seq fun _ hK1 => ?_
  refine Fw.region ?_
  refine Fw.s (Fw.val_assign rfl) rfl ?_
  refine Fw.nil ?_
  refine hK1 _ _ ?_
  refine Fw.seq fun _ hK2 => ?_
  refine Fw.seq fun _ hK3 => ?_
  refine Fw.region ?_
  refine Fw.s (Fw.val_move rfl) rfl ?_
  refine Fw.s (Fw.val_nil rfl) rfl ?_
  refine Fw.s (Fw.val_fieldAddr fl71_0 rfl rfl) rfl ?_
  refine Fw.ld sc34 rfl (HR.cell 0) rfl ?_
  refine Fw.s (Fw.val_move rfl) rfl ?_
  refine Fw.s (Fw.val_move rfl) rfl ?_
  refine Fw.s (Fw.val_build (ps := [(0, _), (1, _)]) rfl (bu64_0_1 _ _ _ _)) rfl ?_
  refine Fw.call cf41 rfl rfl (Vr.appendV_any _ o i pf p V t n A c base HJ0 ht hn hlt hE hA) ?_
  rintro e_ w1 ⟨rfl, HJ1, hc1, hx1⟩
  refine ⟨_, rfl, ?_⟩
  replace HR := hx1 _ _ HR
  refine Fw.s (Fw.val_assign rfl) rfl ?_
  refine Fw.nil ?_
  refine hK3 _ _ (Fw.FC.sub (f' := [(7, _), (0, _)]) (.cons rfl (.cons rfl .nil)) ?_)
  refine Fw.seq fun _ hK4 => ?_
  refine Fw.region ?_
  refine Fw.s (Fw.val_move rfl) rfl ?_
  refine Fw.s (Fw.Val.F (Fw.val_bin rfl rfl Fw.b_neq) (by decide)) rfl ?_
  refine Fw.nil ?_
  refine hK4 _ _ ?_
  refine Fw.condF rfl ?_
  refine Fw.skip ?_
  refine hK2 _ _ ?_
  refine Fw.seq fun _ hK5 => ?_
  refine Fw.region ?_
  refine Fw.s (Fw.val_move rfl) rfl ?_
  refine Fw.s (Fw.val_nil rfl) rfl ?_
  refine Fw.s (Fw.val_fieldAddr fl71_0 rfl rfl) rfl ?_
  refine Fw.ld sc34 rfl (HR.cell 0) rfl ?_
  refine Fw.call cf42 rfl rfl (syncV_any _ _ i pf p _ _ HJ1) ?_
  rintro e_ w2 ⟨rfl, HJ2, hc2, hx2⟩
  refine ⟨_, rfl, ?_⟩
  replace HR := hx2 _ _ HR
  refine Fw.s (Fw.val_assign rfl) rfl ?_
  refine Fw.nil ?_
  refine hK5 _ _ (Fw.FC.sub (f' := [(6, _)]) (.cons rfl .nil) ?_)
  refine Fw.ret ?_
  refine Fw.ret_ [.tmp 6] [_] Try.results30 (.tmp rfl .nil) ?_
  rw [Vr.up_up hc1.size] at HJ2
  exact ⟨rfl, p, HJ2, HR, hc1.trans hc2 (fun k hk e => by rw [Vr.up_lt hk] at e; exact e)⟩

set_option maxRecDepth 100000 in
set_option maxHeartbeats 1000000 in
theorem grant_any (w : World) (o : Nat → Nat) (i pf r : Nat) (V : List (Int × Int)) (t n : Int) (h : Vr.VAt w o i pf r V) (ht : 1 ≤ t ∧ t ≤ 4) (hn : 0 ≤ n ∧ n ≤ 2) : Calls Try.prog 12 #[.pointer (some ⟨r, 0, none⟩), .int .i64 t, .int .i64 n] w fun e_ w' => ∃ x V', e_ = .returned (.int .i64 x) ∧ Vr.VAt w' (Vr.up o w.heap.size i) i pf r V' ∧ (V' = V ∨ V' = V ++ [(t, n)]) ∧ (x = 0 → (t, n) ∈ V') ∧ Chg (fun k => o k = i) w w' := by
  have hG := h.good
  have hbd := hG.bounds
  have HV0 := h.own (o' := Vr.up o w.heap.size i) (fun k hk => Vr.up_lt hk)
  have HV1 := h.own (o' := Vr.up o w.heap.size (i + 1)) (fun k hk => Vr.up_lt hk)
  obtain ⟨p, HJ0, HR, hor⟩ := h
  have hIt : Wr.I64 t := Vr.i64 (by omega)
  have hIn : Wr.I64 n := Vr.i64 (by omega)
  have hbl := Vr.rec1_len (v := (t, n)) ⟨ht, hn⟩
  have hbl2 : (Wr.enc t ++ Wr.enc n).length ≤ 20 := hbl
  have hbl1 : (Wr.enc t).length ≤ 20 := by rw [List.length_append] at hbl2; omega
  refine Fw.calls Try.func12 rfl Try.ntmps12 rfl ?_
  have HB := Below.refl (w.heap.size) w
  have HR0 := HR
  refine Fw.seq fun _ hK1 => ?_
  refine Fw.region ?_
  refine Fw.s (Fw.val_assign rfl) rfl ?_
  refine Fw.nil ?_
  refine hK1 _ _ ?_
  refine Fw.seq fun _ hK2 => ?_
  refine Fw.seq fun _ hK3 => ?_
  refine Fw.region ?_
  refine Fw.s (Fw.val_move rfl) rfl ?_
  refine Fw.call cf27 rfl rfl (validTerm_any t _) ?_
  rintro e_ _ ⟨b10, rfl, h10, rfl⟩
  refine ⟨_, rfl, ?_⟩
  refine Fw.bT (by exact h10.2 ⟨by omega, by omega⟩) ?_
  refine Fw.s (Fw.val_not rfl) rfl ?_
  refine Fw.s (Fw.val_move rfl) rfl ?_
  refine Fw.gT (d := 12) rfl rfl ?_
  refine Fw.s (Fw.val_move rfl) rfl ?_
  refine Fw.gT (d := 12) rfl rfl ?_
  refine Fw.call cf28 rfl rfl (validNode_any n _) ?_
  rintro e_ _ ⟨b14, rfl, h14, rfl⟩
  refine ⟨_, rfl, ?_⟩
  refine Fw.bT (by exact h14.2 ⟨by omega, by omega⟩) ?_
  refine Fw.gT (d := 12) rfl rfl ?_
  refine Fw.s (Fw.val_not rfl) rfl ?_
  refine Fw.s (Fw.val_pickF rfl rfl) rfl ?_
  refine Fw.nil ?_
  refine hK3 _ _ (Fw.FC.sub (f' := [(16, _), (0, _), (1, _), (2, _)]) (.cons rfl (.cons rfl (.cons rfl (.cons rfl .nil)))) ?_)
  refine Fw.condF rfl ?_
  refine Fw.skip ?_
  refine hK2 _ _ ?_
  refine Fw.seq fun _ hK4 => ?_
  refine Fw.seq fun _ hK5 => ?_
  refine Fw.region ?_
  refine Fw.s (Fw.val_move rfl) rfl ?_
  refine Fw.s (Fw.val_move rfl) rfl ?_
  refine Fw.s (Fw.val_nil rfl) rfl ?_
  refine Fw.s (Fw.val_fieldAddr fl71_1 rfl rfl) rfl ?_
  refine Fw.ld sc2 rfl (HR.cell 1) rfl ?_
  refine Fw.s2 (Fw.val_bin rfl rfl Fw.b_lss) rfl ?_ ?_
  · rintro hlt
    refine Fw.nil ?_
    refine hK5 _ _ ?_
    refine Fw.condT rfl ?_
    refine Fw.seq fun _ hK7 => ?_
    refine Fw.region ?_
    refine Fw.s (Fw.val_assign rfl) rfl ?_
    refine Fw.nil ?_
    refine hK7 _ _ (Fw.FC.sub (f' := [(6, _)]) (.cons rfl .nil) ?_)
    refine Fw.ret ?_
    refine Fw.X_ret ?_
    refine Fw.ret_ [.tmp 6] [_] Try.results12 (.tmp rfl .nil) ?_
    exact ⟨9, V, rfl, (HV0.keep (Chg.of_below HB (fun _ => False)) (fun _ _ h => h)), .inl rfl, fun h_ => absurd h_ (by decide), Chg.of_below HB _⟩
  · rintro hlt
    refine Fw.nil ?_
    refine hK5 _ _ ?_
    refine Fw.condF rfl ?_
    refine Fw.skip ?_
    refine hK4 _ _ (Fw.FC.sub (f' := [(0, _), (1, _), (2, _)]) (.cons rfl (.cons rfl (.cons rfl .nil))) ?_)
    refine Fw.seq fun _ hK8 => ?_
    refine Fw.seq fun _ hK9 => ?_
    refine Fw.region ?_
    refine Fw.s (Fw.val_move rfl) rfl ?_
    refine Fw.s (Fw.val_move rfl) rfl ?_
    refine Fw.s (Fw.val_nil rfl) rfl ?_
    refine Fw.s (Fw.val_fieldAddr fl71_1 rfl rfl) rfl ?_
    refine Fw.ld sc2 rfl (HR.cell 1) rfl ?_
    refine Fw.s2 (Fw.val_bin rfl rfl Fw.b_eql) rfl ?_ ?_
    · rintro heq
      refine Fw.s (Fw.val_move rfl) rfl ?_
      refine Fw.gT (d := 29) rfl rfl ?_
      refine Fw.s (Fw.val_move rfl) rfl ?_
      refine Fw.gT (d := 29) rfl rfl ?_
      refine Fw.s (Fw.val_nil rfl) rfl ?_
      refine Fw.gT (d := 29) rfl rfl ?_
      refine Fw.s (Fw.val_fieldAddr fl71_2 rfl rfl) rfl ?_
      refine Fw.gT (d := 29) rfl rfl ?_
      refine Fw.ld sc3 rfl (HR.cell 2) rfl ?_
      refine Fw.gT (d := 29) rfl rfl ?_
      refine Fw.s (Fw.Val.T (Fw.val_bin rfl rfl Fw.b_geq) (by omega)) rfl ?_
      refine Fw.s (Fw.val_pickT rfl rfl) rfl ?_
      refine Fw.nil ?_
      refine hK9 _ _ (Fw.FC.sub (f' := [(35, _), (0, _), (1, _), (2, _)]) (.cons rfl (.cons rfl (.cons rfl (.cons rfl .nil)))) ?_)
      refine Fw.condT rfl ?_
      refine Fw.seq fun _ hK11 => ?_
      refine Fw.seq fun _ hK12 => ?_
      refine Fw.region ?_
      refine Fw.s (Fw.val_move rfl) rfl ?_
      refine Fw.s (Fw.val_nil rfl) rfl ?_
      refine Fw.s (Fw.val_fieldAddr fl71_2 rfl rfl) rfl ?_
      refine Fw.ld sc3 rfl (HR.cell 2) rfl ?_
      refine Fw.s (Fw.val_move rfl) rfl ?_
      refine Fw.s2 (Fw.val_bin rfl rfl Fw.b_neq) rfl ?_ ?_
      · rintro hne
        refine Fw.nil ?_
        refine hK12 _ _ (Fw.FC.sub (f' := [(41, _)]) (.cons rfl .nil) ?_)
        refine Fw.condT rfl ?_
        refine Fw.seq fun _ hK14 => ?_
        refine Fw.region ?_
        refine Fw.s (Fw.val_assign rfl) rfl ?_
        refine Fw.nil ?_
        refine hK14 _ _ ?_
        refine Fw.ret ?_
        refine Fw.X_ret ?_
        refine Fw.X_ret ?_
        refine Fw.ret_ [.tmp 6] [_] Try.results12 (.tmp rfl .nil) ?_
        exact ⟨10, V, rfl, (HV0.keep (Chg.of_below HB (fun _ => False)) (fun _ _ h => h)), .inl rfl, fun h_ => absurd h_ (by decide), Chg.of_below HB _⟩
      · rintro hne
        refine Fw.nil ?_
        refine hK12 _ _ (Fw.FC.sub (f' := [(41, _)]) (.cons rfl .nil) ?_)
        refine Fw.condF rfl ?_
        refine Fw.skip ?_
        refine hK11 _ _ ?_
        refine Fw.seq fun _ hK15 => ?_
        refine Fw.region ?_
        refine Fw.s (Fw.val_assign rfl) rfl ?_
        refine Fw.nil ?_
        refine hK15 _ _ ?_
        refine Fw.ret ?_
        refine Fw.X_ret ?_
        refine Fw.ret_ [.tmp 6] [_] Try.results12 (.tmp rfl .nil) ?_
        exact ⟨0, V, rfl, (HV0.keep (Chg.of_below HB (fun _ => False)) (fun _ _ h => h)), .inl rfl, fun _ => by have h9 := (hbd.2.2.2 (by omega)).2; have e1 : t = Vr.term V := (by omega); have e2 : n = Vr.voted V := (by omega); rw [e1, e2]; exact h9, Chg.of_below HB _⟩
    · rintro heq
      refine Fw.s (Fw.val_move rfl) rfl ?_
      refine Fw.gF (d := 29) rfl rfl rfl rfl ?_
      refine Fw.gF (d := 29) rfl rfl rfl rfl ?_
      refine Fw.gF (d := 29) rfl rfl rfl rfl ?_
      refine Fw.gF (d := 29) rfl rfl rfl rfl ?_
      refine Fw.gF (d := 29) rfl rfl rfl rfl ?_
      refine Fw.s (Fw.val_pickF rfl rfl) rfl ?_
      refine Fw.nil ?_
      refine hK9 _ _ (Fw.FC.sub (f' := [(35, _), (0, _), (1, _), (2, _)]) (.cons rfl (.cons rfl (.cons rfl (.cons rfl .nil)))) ?_)
      refine Fw.condF rfl ?_
      refine Fw.skip ?_
      refine hK8 _ _ ?_
      refine Fw.seq fun _ hK16 => ?_
      refine Fw.region ?_
      refine Fw.alloc ze78 rfl ?_
      intro w1 gXw egXw HXw hb
      have n_r_gXw : r < gXw := by have := HR.lt; omega
      have lgXw : w.heap.size ≤ gXw := by have := HB.size; omega
      replace HR := HR.low hb
      replace HB := HB.trans (hb.mono HB.size)
      clear hb
      clear egXw
      refine Fw.nil ?_
      refine hK16 _ _ ?_
      refine Fw.seq fun _ hK17 => ?_
      have HW : WrAt w1 gXw gXw [] := ⟨Nat.le_refl _, none, 0, HXw, World.ownsRow_nil _ _ _ _⟩
      clear HXw
      refine Fw.region ?_
      refine Fw.s (Fw.val_move rfl) rfl ?_
      refine Fw.call cf29 rfl rfl (writerInt_any _ gXw gXw [] t HW hIt (by decide)) ?_
      rintro e_ w2 ⟨rfl, HW2, hw_⟩
      refine ⟨_, rfl, ?_⟩
      replace HR := HR.below hw_ (by omega)
      replace HB := HB.trans (hw_.mono (by omega))
      clear hw_ HW
      have HW := HW2
      clear HW2
      refine Fw.nil ?_
      refine hK17 _ _ ?_
      refine Fw.seq fun _ hK18 => ?_
      refine Fw.region ?_
      refine Fw.s (Fw.val_move rfl) rfl ?_
      refine Fw.call cf29 rfl rfl (writerInt_any _ gXw gXw ([] ++ Wr.enc t) n HW hIn (by show (Wr.enc t).length ≤ _; omega)) ?_
      rintro e_ w3 ⟨rfl, HW2, hw_⟩
      refine ⟨_, rfl, ?_⟩
      replace HR := HR.below hw_ (by omega)
      replace HB := HB.trans (hw_.mono (by omega))
      clear hw_ HW
      have HW := HW2
      clear HW2
      refine Fw.nil ?_
      refine hK18 _ _ ?_
      refine Fw.seq fun _ hK19 => ?_
      refine Fw.seq fun _ hK20 => ?_
      refine Fw.region ?_
      refine Fw.s (Fw.val_move rfl) rfl ?_
      refine Fw.call cf31 rfl rfl (encoded_any _ gXw gXw ([] ++ Wr.enc t ++ Wr.enc n) HW (by rw [show ([] ++ Wr.enc t ++ Wr.enc n) = (Wr.enc t ++ Wr.enc n) from rfl]; omega)) ?_
      rintro e_ w4 ⟨AE, cE, rfl, HE, hb⟩
      refine ⟨_, rfl, ?_⟩
      have hszE : w.heap.size ≤ w3.heap.size := HB.size
      replace HR := HR.low hb
      replace HW := HW.low hb
      replace HB := HB.trans (hb.mono HB.size)
      clear hb
      refine Fw.call cf30 rfl rfl (store_any _ (Vr.up o w.heap.size (i + 1)) i pf r V t n AE cE _ (HV1.keep (Chg.of_below HB (fun _ => False)) (fun _ _ h => h)) ht hn (by omega) HE (fun ad e => by rw [Vr.up_ge (Nat.le_trans hszE (Fw.own_lo HE (by rw [e]; rfl)))]; omega)) ?_
      rintro e_ w5 ⟨rfl, p2, HJ2, HR2, hc2⟩
      refine ⟨_, rfl, ?_⟩
      clear HR
      have HR := HR2
      clear HR2
      refine Fw.s (Fw.val_assign rfl) rfl ?_
      refine Fw.nil ?_
      refine hK20 _ _ (Fw.FC.sub (f' := [(8, _), (0, _), (1, _), (2, _)]) (.cons rfl (.cons rfl (.cons rfl (.cons rfl .nil)))) ?_)
      refine Fw.seq fun _ hK21 => ?_
      refine Fw.region ?_
      refine Fw.s (Fw.val_move rfl) rfl ?_
      refine Fw.s (Fw.Val.F (Fw.val_bin rfl rfl Fw.b_neq) (by decide)) rfl ?_
      refine Fw.nil ?_
      refine hK21 _ _ ?_
      refine Fw.condF rfl ?_
      refine Fw.skip ?_
      refine hK19 _ _ ?_
      refine Fw.seq fun _ hK22 => ?_
      have hj2 := HJ2
      have hr2 := HR
      refine Fw.region ?_
      refine Fw.s (Fw.val_move rfl) rfl ?_
      refine Fw.s (Fw.val_move rfl) rfl ?_
      refine Fw.s (Fw.val_move rfl) rfl ?_
      refine Fw.s (Fw.val_move rfl) rfl ?_
      refine Fw.s (Fw.val_nil rfl) rfl ?_
      refine Fw.s (Fw.val_fieldAddr fl71_1 rfl rfl) rfl ?_
      refine Fw.store sz2 rfl rfl HR rfl rfl rfl ?_
      intro w6 N_ hc
      have hcr1 := hc
      have hrA := N_
      clear hc
      clear HR
      have HR := N_
      clear N_
      refine Fw.s (Fw.val_nil rfl) rfl ?_
      refine Fw.s (Fw.val_fieldAddr fl71_2 rfl rfl) rfl ?_
      refine Fw.store sz3 rfl rfl HR rfl rfl rfl ?_
      intro w7 N_ hc
      have hcr2 := hc
      clear hc
      clear HR
      have HR := N_
      clear N_
      refine Fw.nil ?_
      refine hK22 _ _ (Fw.FC.sub (f' := []) .nil ?_)
      refine Fw.seq fun _ hK23 => ?_
      refine Fw.region ?_
      refine Fw.s (Fw.val_assign rfl) rfl ?_
      refine Fw.nil ?_
      refine hK23 _ _ ?_
      refine Fw.ret ?_
      refine Fw.ret_ [.tmp 6] [_] Try.results12 (.tmp rfl .nil) ?_
      have hj3 : Vr.JS w7 _ i pf p2 _ _ := (hj2.rec_ hr2 hcr1).rec_ hrA hcr2
      refine ⟨0, V ++ [(t, n)], rfl, ⟨p2, hj3.mono (fun k hk => ?_), by rw [Vr.term_snoc, Vr.voted_snoc]; exact HR, by rw [Vr.up_lt (Nat.lt_of_lt_of_le HR0.lt (Nat.le_refl _))]; exact hor⟩, .inr rfl, fun _ => by simp, ?_⟩
      · by_cases h1 : k < w.heap.size
        · rw [Vr.up_lt h1]; rw [Vr.up_lt (Nat.lt_of_lt_of_le h1 HB.size), Vr.up_lt h1] at hk; exact hk
        · exact Vr.up_ge (by omega)
      · have q1 : Chg (fun k => o k = i) w w5 := (Chg.of_below HB (fun k => o k = i)).trans hc2 (fun k hk e => by rw [Vr.up_lt hk] at e; exact e)
        exact (q1.trans hcr1 (fun k _ e => by rw [e]; exact hor)).trans hcr2 (fun k _ e => by rw [e]; exact hor)

end Go.Proofs.Ytgpdodhegacndaa
