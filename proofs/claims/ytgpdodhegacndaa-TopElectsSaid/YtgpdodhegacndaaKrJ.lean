/- Layer 20: Open. -/
import Derived.Test.YtgpdodhegacndaaKrI
namespace Go.Proofs.Ytgpdodhegacndaa
set_option linter.unusedSimpArgs false
set_option linter.unusedVariables false
open Go.RowKit

theorem open_nil (w : World) : Calls Try.prog 7 #[.pointer none] w fun e w' => e = .returned (.tuple #[.pointer none, .int .i64 1]) ∧ w = w' := by
  refine Fw.calls Try.func7 rfl Try.ntmps7 rfl ?_
  refine Fw.seq fun _ hK1 => ?_
  refine Fw.region ?_
  refine Fw.s (Fw.val_assign rfl) rfl ?_
  refine Fw.s (Fw.val_assign rfl) rfl ?_
  refine Fw.nil ?_
  refine hK1 _ _ ?_
  refine Fw.seq fun _ hK2 => ?_
  refine Fw.seq fun _ hK3 => ?_
  refine Fw.region ?_
  refine Fw.s (Fw.val_move rfl) rfl ?_
  refine Fw.s (Fw.val_bin rfl rfl (Fw.b_nilP Try.underlying30)) rfl ?_
  refine Fw.nil ?_
  refine hK3 _ _ ?_
  refine Fw.condT rfl ?_
  refine Fw.seq fun _ hK4 => ?_
  refine Fw.region ?_
  refine Fw.s (Fw.val_assign rfl) rfl ?_
  refine Fw.s (Fw.val_assign rfl) rfl ?_
  refine Fw.nil ?_
  refine hK4 _ _ ?_
  refine Fw.ret ?_
  refine Fw.X_ret ?_
  refine Fw.ret_ [.tmp 2, .tmp 3] [_, _] Try.results7 (.tmp rfl (.tmp rfl .nil)) ?_
  exact ⟨rfl, rfl⟩
theorem open_off (w : World) (B pf : Nat) (g : Option Nat) (t : St.T) (HF : FileAt w B pf g t) (ho : t.off = true) : Calls Try.prog 7 #[.pointer (some ⟨pf, 0, none⟩)] w fun e w' => e = .returned (.tuple #[.pointer none, .int .i64 7]) ∧ w = w' := by
  refine Fw.calls Try.func7 rfl Try.ntmps7 rfl ?_
  refine Fw.seq fun _ hK1 => ?_
  refine Fw.region ?_
  refine Fw.s (Fw.val_assign rfl) rfl ?_
  refine Fw.s (Fw.val_assign rfl) rfl ?_
  refine Fw.nil ?_
  refine hK1 _ _ ?_
  refine Fw.seq fun _ hK2 => ?_
  refine Fw.seq fun _ hK3 => ?_
  refine Fw.region ?_
  refine Fw.s (Fw.val_move rfl) rfl ?_
  refine Fw.s (Fw.val_bin rfl rfl (Fw.b_nilP Try.underlying30)) rfl ?_
  refine Fw.nil ?_
  refine hK3 _ _ ?_
  refine Fw.condF rfl ?_
  refine Fw.skip ?_
  refine hK2 _ _ ?_
  refine Fw.seq fun _ hK4 => ?_
  refine Fw.region ?_
  refine Fw.s (Fw.val_move rfl) rfl ?_
  refine Fw.call cf19 rfl rfl (bytesOff_any _ B pf g t HF ho) ?_
  rintro e_ _ ⟨rfl, rfl⟩
  refine ⟨_, rfl, ?_⟩
  refine Fw.s (Fw.val_move rfl) rfl ?_
  refine Fw.s (Fw.val_extract rfl rfl) rfl ?_
  refine Fw.s (Fw.val_extract rfl rfl) rfl ?_
  refine Fw.s (Fw.val_assign rfl) rfl ?_
  refine Fw.s (Fw.val_assign rfl) rfl ?_
  refine Fw.nil ?_
  refine hK4 _ _ (Fw.FC.sub (f' := [(5, _), (4, _), (0, _)]) (.cons rfl (.cons rfl (.cons rfl .nil))) ?_)
  refine Fw.seq fun _ hK5 => ?_
  refine Fw.seq fun _ hK6 => ?_
  refine Fw.region ?_
  refine Fw.s (Fw.val_move rfl) rfl ?_
  refine Fw.s (Fw.Val.T (Fw.val_bin rfl rfl Fw.b_neq) (by decide)) rfl ?_
  refine Fw.nil ?_
  refine hK6 _ _ ?_
  refine Fw.condT rfl ?_
  refine Fw.seq fun _ hK7 => ?_
  refine Fw.region ?_
  refine Fw.s (Fw.val_move rfl) rfl ?_
  refine Fw.s (Fw.val_assign rfl) rfl ?_
  refine Fw.s (Fw.val_assign rfl) rfl ?_
  refine Fw.nil ?_
  refine hK7 _ _ ?_
  refine Fw.ret ?_
  refine Fw.X_ret ?_
  refine Fw.ret_ [.tmp 2, .tmp 3] [_, _] Try.results7 (.tmp rfl (.tmp rfl .nil)) ?_
  exact ⟨rfl, rfl⟩
theorem Bod.sub {w : World} {base B : Nat} {A : Option Addr} {c cm : Nat} {b : List Int} {v : Rv} (ho : w.ownsRow base 5 1 (.slice A b.length c) b.length (b.map (.int .u8))) (h : Rd w v.A (v.b.map (.int .u8))) (hb : ∀ ad, v.A = some ad → ∃ ad0, cutA A c cm 1 = some ad0 ∧ ad.block = ad0.block) : Bod w none B v :=
  ⟨h, fun _ ad e => .inr ⟨by
    obtain ⟨ad0, e0, e1⟩ := hb ad e
    obtain ⟨ad1, e2, e3⟩ := cutA_blk e0
    rcases ho.2 with ⟨h1, _⟩ | ⟨k', cap, cur, h1, _, hh, _⟩
    · injection h1 with h1; rw [h1] at e2; cases e2
    · injection h1 with h1; rw [h1] at e2; injection e2 with e2; subst e2
      rw [e1, e3]; exact ⟨cur, _, hh⟩, fun e => by cases e⟩⟩

set_option maxRecDepth 100000 in
theorem sum0_any (w : World) : Calls Try.prog 15 #[.slice none 0 0] w fun e w' => e = .returned (.int .u64 Jr.s0) ∧ w = w' := by
  have := sum_any none [] 0 w (Rd.nil _ _) (by decide)
  rw [show Ck.moreI Ck.init [] = Jr.s0 from Ck.moreI_nil] at this
  exact this
set_option maxRecDepth 100000 in
set_option maxHeartbeats 1000000 in
theorem open_any (w : World) (B pf : Nat) (g : Option Nat) (D : List Int) (n0 : Nat) (HF : FileAt w B pf g ⟨D, n0, false⟩) (hl : n0 ≤ D.length ∧ D.length ≤ 1000000) (hb : Ck.Bts D) : Calls Try.prog 7 #[.pointer (some ⟨pf, 0, none⟩)] w fun e_ w' => ∃ (p : Nat) (g' : Option Nat) (L : List Rv) (n : Nat), e_ = .returned (.tuple #[.pointer (some ⟨p, 0, none⟩), .int .i64 0]) ∧ Jr.Val Jr.s0 D (rs L) n ∧ JAt w' B p pf g' ⟨D.take n, (D.take n).length, false⟩ L ∧ 10 * L.length ≤ n ∧ Below B w w' := by
  have hBw : B ≤ w.heap.size := by have := HF.lt_; omega
  refine Fw.calls Try.func7 rfl Try.ntmps7 rfl ?_
  have HB := Below.refl (B) w
  refine Fw.seq fun _ hK1 => ?_
  refine Fw.region ?_
  refine Fw.s (Fw.val_assign rfl) rfl ?_
  refine Fw.s (Fw.val_assign rfl) rfl ?_
  refine Fw.nil ?_
  refine hK1 _ _ ?_
  refine Fw.seq fun _ hK2 => ?_
  refine Fw.seq fun _ hK3 => ?_
  refine Fw.region ?_
  refine Fw.s (Fw.val_move rfl) rfl ?_
  refine Fw.s (Fw.val_bin rfl rfl (Fw.b_nilP Try.underlying30)) rfl ?_
  refine Fw.nil ?_
  refine hK3 _ _ ?_
  refine Fw.condF rfl ?_
  refine Fw.skip ?_
  refine hK2 _ _ ?_
  refine Fw.seq fun _ hK4 => ?_
  refine Fw.region ?_
  refine Fw.s (Fw.val_move rfl) rfl ?_
  refine Fw.call cf19 rfl rfl (sbytes_any _ B pf g ⟨D, n0, false⟩ HF (by show D.length ≤ _; omega) rfl) ?_
  rintro e_ w1 ⟨AD, cD, rfl, HDt, hb_⟩
  refine ⟨_, rfl, ?_⟩
  replace HDt := own_base HDt (show B ≤ _ from Nat.le_trans hBw HB.size)
  have hcap : D.length ≤ cD := (own_cap HDt).1
  replace HF := HF.low_ hb_
  replace HB := HB.trans (hb_.mono (Nat.le_trans hBw HB.size))
  clear hb_
  refine Fw.s (Fw.val_move rfl) rfl ?_
  refine Fw.s (Fw.val_extract rfl rfl) rfl ?_
  refine Fw.s (Fw.val_extract rfl rfl) rfl ?_
  refine Fw.s (Fw.val_assign rfl) rfl ?_
  refine Fw.s (Fw.val_assign rfl) rfl ?_
  refine Fw.nil ?_
  refine hK4 _ _ (Fw.FC.sub (f' := [(5, _), (4, _), (0, _)]) (.cons rfl (.cons rfl (.cons rfl .nil))) ?_)
  refine Fw.seq fun _ hK5 => ?_
  refine Fw.seq fun _ hK6 => ?_
  refine Fw.region ?_
  refine Fw.s (Fw.val_move rfl) rfl ?_
  refine Fw.s (Fw.Val.F (Fw.val_bin rfl rfl Fw.b_neq) (by decide)) rfl ?_
  refine Fw.nil ?_
  refine hK6 _ _ ?_
  refine Fw.condF rfl ?_
  refine Fw.skip ?_
  refine hK5 _ _ ?_
  refine Fw.seq fun _ hK7 => ?_
  refine Fw.region ?_
  refine Fw.s (Fw.val_move rfl) rfl ?_
  refine Fw.s (Fw.val_build (ps := [(0, _)]) rfl (bu62_0 _)) rfl ?_
  refine Fw.box rfl rfl ?_
  intro w2 gJ egJ HJ hb
  have lgJ : B ≤ gJ := by have := (Nat.le_trans hBw HB.size); omega
  replace HF := HF.low_ hb
  replace HDt := own_below HDt hb (Nat.le_refl _)
  replace HB := HB.trans (hb.mono (Nat.le_trans hBw HB.size))
  clear hb
  clear egJ
  refine Fw.s (Fw.val_assign rfl) rfl ?_
  refine Fw.nil ?_
  refine hK7 _ _ ?_
  refine Fw.seq fun _ hK8 => ?_
  refine Fw.region ?_
  refine Fw.call cf15 rfl rfl (sum0_any _) ?_
  rintro e_ _ ⟨rfl, rfl⟩
  refine ⟨_, rfl, ?_⟩
  refine Fw.s (Fw.val_assign rfl) rfl ?_
  refine Fw.nil ?_
  refine hK8 _ _ (Fw.FC.sub (f' := [(7, _), (6, _), (4, _), (0, _)]) (.cons rfl (.cons rfl (.cons rfl (.cons rfl .nil)))) ?_)
  refine Fw.seq fun _ hK9 => ?_
  refine Fw.region ?_
  refine Fw.s (Fw.val_move rfl) rfl ?_
  refine Fw.s (Fw.val_move rfl) rfl ?_
  refine Fw.s (Fw.val_nil rfl) rfl ?_
  refine Fw.s (Fw.val_fieldAddr fl62_2 rfl rfl) rfl ?_
  refine Fw.ld sc60 rfl (HJ.cell 2) rfl ?_
  refine Fw.s (Fw.val_move rfl) rfl ?_
  refine Fw.buildSlice [_] sl60 rfl rfl (by exact Fw.allSz rfl) (by decide) rfl ?_
  intro w3 gS35 egS35 HS35 hb
  have n_gJ_gS35 : gJ < gS35 := by have := HJ.lt; omega
  have lgS35 : B ≤ gS35 := by have := (Nat.le_trans hBw HB.size); omega
  replace HF := HF.low_ hb
  replace HDt := own_below HDt hb (Nat.le_refl _)
  replace HJ := HJ.low hb
  replace HB := HB.trans (hb.mono (Nat.le_trans hBw HB.size))
  clear hb
  clear egS35
  refine Fw.append (base := B) (Jr.sums (rs [])).length ((Jr.sums (rs [])).map (.int .u64)) sl60 rfl rfl (World.ownsRow_nil _ _ _ _) (Fw.rdBlk HS35) rfl (Fw.oneCellsL rfl) (by unfold maxLen; omega) (Nat.le_trans hBw HB.size) rfl rfl rfl ?_
  intro A36 c36 w4 N_ hbb hc _
  have hK0 := Kf.row (g := none) (World.ownsRow_nil _ B 51 1) hc hbb
  have hK := hK0.any g
  replace HF := HF.kf0 hK0 (by decide) (by decide)
  replace HDt := own_kf0 HDt hK0 (by decide)
  replace HJ := HJ.kf hK (by decide) (by decide)
  replace HB := HB.trans hK.low
  clear hK hK0
  clear hbb hc
  have HU := N_
  clear N_
  refine Fw.s (Fw.val_nil rfl) rfl ?_
  refine Fw.s (Fw.val_fieldAddr fl62_2 rfl rfl) rfl ?_
  refine Fw.store sz60 rfl rfl HJ rfl rfl rfl ?_
  intro w5 N_ hc
  have hK0 := Kf.box (B := B) (g := none) HJ hc (by omega)
  have hK := hK0.any g
  replace HF := HF.kf0 hK0 (by decide) (by decide)
  replace HDt := own_kf0 HDt hK0 (by decide)
  replace HU := own_kf HU hK (by decide) (by decide)
  replace HB := HB.trans hK.low
  clear hK hK0
  clear hc
  clear HJ
  have HJ := N_
  clear N_
  refine Fw.nil ?_
  refine hK9 _ _ (Fw.FC.sub (f' := [(7, _), (6, _), (4, _), (0, _)]) (.cons rfl (.cons rfl (.cons rfl (.cons rfl .nil)))) ?_)
  refine Fw.seq fun _ hK10 => ?_
  refine Fw.region ?_
  refine Fw.s (Fw.val_assign rfl) rfl ?_
  refine Fw.nil ?_
  refine hK10 _ _ ?_
  refine Fw.seq fun _ hK11 => ?_
  refine Fw.block ?_
  have HO : RecO w5 g B B 64 none 0 [] := RecO.nil _ _ _ _ _
  refine Fw.loop (fun m_ f_ W_ => ∃ (n : Nat) (L : List Rv) (A1_ : Option Addr) (c1_ : Nat) (A2_ : Option Addr) (c2_ : Nat), m_ = D.length - n ∧ n ≤ D.length ∧ 10 * L.length ≤ n ∧ D.take n = Jr.encs Jr.s0 (rs L) ∧ (∀ r ∈ rs L, r.ok ∧ r.b.length ≤ 8192) ∧ FileAt W_ B pf g ⟨D, n0, false⟩ ∧ W_.ownsRow B 5 1 (.slice AD D.length cD) D.length (D.map (.int .u8)) ∧ Blk W_ gJ 62 #[.pointer (some ⟨pf, 0, none⟩), .slice A1_ L.length c1_, .slice A2_ (Jr.sums (rs L)).length c2_] ∧ W_.ownsRow B 51 1 (.slice A2_ (Jr.sums (rs L)).length c2_) (Jr.sums (rs L)).length ((Jr.sums (rs L)).map (.int .u64)) ∧ RecO W_ g B B 64 A1_ c1_ L ∧ Below (B) w W_ ∧ f_ = [(8, .int .i64 n), (7, .int .u64 (Jr.sealF Jr.s0 (rs L))), (6, .pointer (some ⟨gJ, 0, none⟩)), (4, .slice AD D.length cD), (0, .pointer (some ⟨pf, 0, none⟩))]) ⟨_, _, ⟨0, [], none, 0, A36, c36, rfl, Nat.zero_le _, Nat.le_refl _, rfl, fun r hr => (by cases hr), HF, HDt, HJ, HU, HO, HB, rfl⟩, (.cons rfl (.cons rfl (.cons rfl (.cons rfl (.cons rfl .nil)))))⟩ ?_
  clear HF HDt HJ HU HO HB
  rintro m12_ _ w6 ⟨n, L, A1_, c1_, A2_, c2_, hm12_, hn, hLn, hp, hok, HF, HDt, HJ, HU, HO, HB, rfl⟩
  refine Fw.block ?_
  refine Fw.seq fun _ hK13 => ?_
  have hdr : Rd w6 (cutA AD cD n 1) ((D.drop n).map (.int .u8)) := by have := (Rd.of_own HDt).cut (size := 1) cD n (by rw [List.length_map]; omega); rw [Nat.mul_one, ← List.map_drop] at this; exact this
  refine Fw.region ?_
  refine Fw.s (Fw.val_move rfl) rfl ?_
  refine Fw.s (Fw.val_move rfl) rfl ?_
  refine Fw.s (Fw.val_sliceFrom (m := n) Try.underlying56 sz5 rfl rfl rfl hn) rfl ?_
  refine Fw.s (Fw.val_move rfl) rfl ?_
  refine Fw.call cf20 rfl rfl (by have := readRecord_any w6 (cutA AD cD n 1) (D.drop n) (cD - n) (Jr.sealF Jr.s0 (rs L)) hdr (fun x hx => hb x (List.mem_of_mem_drop hx)) (by rw [List.length_drop]; omega) (by rw [List.length_drop]; omega); rw [List.length_drop] at this; exact this) ?_
  rintro e_ w7 ⟨A3, c3, rfl, hr3, hl3, hbk3, hb_⟩
  refine ⟨_, rfl, ?_⟩
  replace HF := HF.low_ hb_
  replace HDt := own_below HDt hb_ (Nat.le_refl _)
  replace HJ := HJ.low hb_
  replace HU := own_below HU hb_ (Nat.le_refl _)
  replace HO := HO.low hb_ (Nat.le_trans hBw HB.size)
  replace HB := HB.trans (hb_.mono (Nat.le_trans hBw HB.size))
  clear hb_
  have HBd : Bod w7 none B ⟨(Jr.fR (Jr.sealF Jr.s0 (rs L)) (D.drop n)).k, (Jr.fR (Jr.sealF Jr.s0 (rs L)) (D.drop n)).b, A3, c3⟩ := Bod.sub HDt hr3 hbk3
  refine Fw.s (Fw.val_move rfl) rfl ?_
  refine Fw.s (Fw.val_extract rfl rfl) rfl ?_
  refine Fw.s (Fw.val_extract rfl rfl) rfl ?_
  refine Fw.s (Fw.val_extract rfl rfl) rfl ?_
  refine Fw.s (Fw.val_extract rfl rfl) rfl ?_
  refine Fw.b2 ?_ ?_
  · rintro hs
    refine Fw.alloc ze64 rfl ?_
    intro w8 gXv egXv HXv hb
    have hxo : ¬ some gXv = (Value.slice A1_ L.length c1_).ownBlock := HO.out (by omega)
    have n_gJ_gXv : gJ < gXv := by have := HJ.lt; omega
    have lgXv : B ≤ gXv := by have := (Nat.le_trans hBw HB.size); omega
    replace HF := HF.low_ hb
    replace HDt := own_below HDt hb (Nat.le_refl _)
    replace HJ := HJ.low hb
    replace HU := own_below HU hb (Nat.le_refl _)
    replace HO := HO.low hb (Nat.le_trans hBw HB.size)
    replace HBd := HBd.low hb (Nat.le_trans hBw HB.size)
    replace HB := HB.trans (hb.mono (Nat.le_trans hBw HB.size))
    clear hb
    clear egXv
    refine Fw.storeW sz64 rfl rfl HXv rfl rfl (by exact Fw.oneCells rfl) ?_
    intro w9 N_ hc
    have hK0 := Kf.box (B := B) (g := none) HXv hc (by omega)
    have hK := hK0.any g
    replace HF := HF.kf0 hK0 (by decide) (by decide)
    replace HDt := own_kf0 HDt hK0 (by decide)
    replace HJ := HJ.kf hK (by decide) (by decide)
    replace HU := own_kf HU hK (by decide) (by decide)
    replace HO := HO.box HXv hc (by omega) (Nat.le_trans hBw HB.size) hxo (by decide)
    replace HBd := HBd.kf hK0 (by decide) (.inl rfl)
    replace HB := HB.trans hK.low
    clear hK hK0
    clear hc
    clear HXv
    have HXv := N_
    clear N_
    refine Fw.s (Fw.val_assign rfl) rfl ?_
    refine Fw.s (Fw.val_assign rfl) rfl ?_
    refine Fw.s (Fw.val_assign rfl) rfl ?_
    refine Fw.nil ?_
    refine hK13 _ _ (Fw.FC.sub (f' := [(12, _), (11, _), (10, _), (9, _), (8, _), (6, _), (4, _), (0, _)]) (.cons rfl (.cons rfl (.cons rfl (.cons rfl (.cons rfl (.cons rfl (.cons rfl (.cons rfl .nil)))))))) ?_)
    refine Fw.seq fun _ hK14 => ?_
    refine Fw.seq fun _ hK15 => ?_
    refine Fw.region ?_
    refine Fw.s (Fw.val_move rfl) rfl ?_
    refine Fw.s (Fw.val_not rfl) rfl ?_
    refine Fw.nil ?_
    refine hK15 _ _ ?_
    refine Fw.condF rfl ?_
    refine Fw.skip ?_
    refine hK14 _ _ ?_
    refine Fw.seq fun _ hK16 => ?_
    obtain ⟨⟨r, m⟩, hf⟩ := Option.isSome_iff_exists.1 hs
    obtain ⟨z1, z2, z3, -⟩ := Jr.f_some hf
    obtain ⟨v1, v2, v4, v5, v6, v7⟩ := Jr.val_step hb hn hp hf
    have v8 : 10 ≤ m := by have := Wr.enc_pos (r.b.length : Nat); rw [v7, Jr.one_len]; omega
    have v3 : ∀ x ∈ rs L ++ [r], x.ok ∧ x.b.length ≤ 8192 := fun x hx => by
      rcases List.mem_append.1 hx with h1 | h1
      · exact hok x h1
      · simp at h1; subst h1; exact ⟨v4, v5⟩
    rw [z1] at HXv HBd
    rw [z2, z3]
    refine Fw.region ?_
    refine Fw.s (Fw.val_move rfl) rfl ?_
    refine Fw.s (Fw.val_move rfl) rfl ?_
    refine Fw.s (Fw.val_bin rfl rfl (Fw.b_add (Fw.i64_ok (by omega)))) rfl ?_
    refine Fw.s (Fw.val_assign rfl) rfl ?_
    refine Fw.nil ?_
    refine hK16 _ _ (Fw.FC.sub (f' := [(8, _), (10, _), (9, _), (6, _), (4, _), (0, _)]) (.cons rfl (.cons rfl (.cons rfl (.cons rfl (.cons rfl (.cons rfl .nil)))))) ?_)
    refine Fw.seq fun _ hK17 => ?_
    refine Fw.region ?_
    refine Fw.s (Fw.val_move rfl) rfl ?_
    refine Fw.s (Fw.val_assign rfl) rfl ?_
    refine Fw.nil ?_
    refine hK17 _ _ ?_
    refine Fw.seq_cut [(0, .pointer (some ⟨pf, 0, none⟩)), (4, .slice AD D.length cD), (6, .pointer (some ⟨gJ, 0, none⟩)), (7, .int .u64 (Jr.next (Jr.sealF Jr.s0 (rs L)) r)), (8, .int .i64 ((n + m : Nat) : Int))] (fun W_ => (∃ (v' : Rv) (A1x : Option Addr) (c1x : Nat), v'.r = r ∧ Blk W_ gJ 62 #[.pointer (some ⟨pf, 0, none⟩), .slice A1x (L ++ [v']).length c1x, .slice A2_ (Jr.sums (rs L)).length c2_] ∧ RecO W_ g B B 64 A1x c1x (L ++ [v'])) ∧ FileAt W_ B pf g ⟨D, n0, false⟩ ∧ W_.ownsRow B 51 1 (.slice A2_ (Jr.sums (rs L)).length c2_) (Jr.sums (rs L)).length ((Jr.sums (rs L)).map (.int .u64)) ∧ W_.ownsRow B 5 1 (.slice AD D.length cD) D.length (D.map (.int .u8)) ∧ Below (B) w W_) ?_ (fun _ hK18 => ?_)
    · rintro w10 ⟨HJX, HF, HU, HDt, HB⟩
      obtain ⟨v', A1x, c1x, hv, HJ, HO⟩ := HJX
      refine Fw.region ?_
      refine Fw.s (Fw.val_move rfl) rfl ?_
      refine Fw.s (Fw.val_move rfl) rfl ?_
      refine Fw.s (Fw.val_nil rfl) rfl ?_
      refine Fw.s (Fw.val_fieldAddr fl62_2 rfl rfl) rfl ?_
      refine Fw.ld sc60 rfl (HJ.cell 2) rfl ?_
      refine Fw.s (Fw.val_move rfl) rfl ?_
      refine Fw.buildSlice [_] sl60 rfl rfl (by exact Fw.allSz rfl) (by decide) rfl ?_
      intro w11 gS72 egS72 HS72 hb
      have n_gJ_gS72 : gJ < gS72 := by have := HJ.lt; omega
      have lgS72 : B ≤ gS72 := by have := (Nat.le_trans hBw HB.size); omega
      replace HF := HF.low_ hb
      replace HU := own_below HU hb (Nat.le_refl _)
      replace HDt := own_below HDt hb (Nat.le_refl _)
      replace HJ := HJ.low hb
      replace HO := HO.low hb (Nat.le_trans hBw HB.size)
      replace HB := HB.trans (hb.mono (Nat.le_trans hBw HB.size))
      clear hb
      clear egS72
      have hsu : Jr.sums (rs (L ++ [v'])) = Jr.sums (rs L) ++ [Jr.next (Jr.sealF Jr.s0 (rs L)) r] := by rw [rs_append, show rs [v'] = [r] from congrArg (fun x => [x]) hv, Jr.sums_snoc, Jr.sealF_snoc]
      refine Fw.append (base := B) (Jr.sums (rs (L ++ [v']))).length ((Jr.sums (rs (L ++ [v']))).map (.int .u64)) sl60 rfl rfl HU (Fw.rdBlk HS72) rfl (Fw.oneCellsL rfl) (by have := Jr.sums_len (rs L); rw [rs_len] at this; unfold maxLen; omega) (Nat.le_trans hBw HB.size) (by rw [hsu]; simp) (by rw [hsu, List.map_append]; rfl) rfl ?_
      intro A73 c73 w12 N_ hbb hc _
      have hK0 := Kf.row (g := none) HU hc hbb
      have hK := hK0.any g
      replace HF := HF.kf0 hK0 (by decide) (by decide)
      replace HDt := own_kf0 HDt hK0 (by decide)
      replace HJ := HJ.kf hK (by decide) (by decide)
      replace HO := HO.kf hK (by decide) (by decide) (by decide) (.inl rfl)
      replace HB := HB.trans hK.low
      clear hK hK0
      clear hbb hc HU
      have HU := N_
      clear N_
      refine Fw.s (Fw.val_nil rfl) rfl ?_
      refine Fw.s (Fw.val_fieldAddr fl62_2 rfl rfl) rfl ?_
      refine Fw.store sz60 rfl rfl HJ rfl rfl rfl ?_
      intro w13 N_ hc
      have hK0 := Kf.box (B := B) (g := none) HJ hc (by omega)
      have hK := hK0.any g
      replace HF := HF.kf0 hK0 (by decide) (by decide)
      replace HU := own_kf HU hK (by decide) (by decide)
      replace HDt := own_kf0 HDt hK0 (by decide)
      replace HO := HO.kf hK (by decide) (by decide) (by decide) (.inl rfl)
      replace HB := HB.trans hK.low
      clear hK hK0
      clear hc
      clear HJ
      have HJ := N_
      clear N_
      refine Fw.nil ?_
      refine Fw.X_blockN ?_
      rw [show Jr.next (Jr.sealF Jr.s0 (rs L)) r = Jr.sealF Jr.s0 (rs (L ++ [v'])) by rw [rs_append, show rs [v'] = [r] from congrArg (fun x => [x]) hv, Jr.sealF_snoc]]
      refine Fw.roundEnd _ _ (by omega) ⟨n + m, L ++ [v'], A1x, c1x, A73, c73, rfl, v1, by simp; omega, by rw [rs_append, show rs [v'] = [r] from congrArg (fun x => [x]) hv]; exact v2, by rw [rs_append, show rs [v'] = [r] from congrArg (fun x => [x]) hv]; exact v3, HF, HDt, HJ, HU, HO, HB, rfl⟩ (.cons rfl (.cons rfl (.cons rfl (.cons rfl (.cons rfl .nil)))))
    · skip
      have hBr : B ≤ w9.heap.size := (Nat.le_trans hBw HB.size)
      refine Fw.regionHS (fun W_ => Below (B) w9 W_ ∧ Blk W_ gXv 64 #[.int .u8 r.k, .slice A3 r.b.length c3]) (by kernel_rfl) ⟨(Fw.drew_low w9).mono hBr, HXv.low (Fw.drew_low w9)⟩ ?_
      have R_HJ := HJ
      have R_HXv := HXv
      have R_HB := HB
      intro w14 hb HS
      replace HS := HS.1
      replace HF := HF.low_ hb
      replace HDt := own_below HDt hb (Nat.le_refl _)
      replace HJ := HJ.low hb
      replace HU := own_below HU hb (Nat.le_refl _)
      replace HO := HO.low hb (Nat.le_trans hBw HB.size)
      replace HBd := HBd.low hb (Nat.le_trans hBw HB.size)
      replace HXv := HXv.low hb
      replace HB := HB.trans (hb.mono (Nat.le_trans hBw HB.size))
      clear hb
      refine Fw.hTake 0 rfl rfl (by kernel_rfl) (by kernel_rfl) (by kernel_rfl) (Fw.yV (Fw.val_move rfl)) rfl ?_
      refine Fw.hTake 1 rfl rfl (by kernel_rfl) (by kernel_rfl) (by kernel_rfl) (Fw.yV (Fw.val_move rfl)) rfl ?_
      refine Fw.hTake 2 rfl rfl (by kernel_rfl) (by kernel_rfl) (by kernel_rfl) (Fw.yV (Fw.val_nil rfl)) rfl ?_
      refine Fw.hTake 3 rfl rfl (by kernel_rfl) (by kernel_rfl) (by kernel_rfl) (Fw.yV (Fw.val_fieldAddr fl62_1 rfl rfl)) rfl ?_
      refine Fw.hTake 5 rfl rfl (by kernel_rfl) (by kernel_rfl) (by kernel_rfl) (Fw.yV (Fw.val_loadA ag64 rfl (fun _ h_ => Fw.rdBlk h_.2) rfl)) rfl ?_
      refine Fw.hAll2 4 6 (by kernel_rfl) ?_ ?_
      · skip
        refine Fw.hOp 4 rfl ?_
        refine Fw.ld sc59 rfl (HJ.cell 1) rfl ?_
        refine Fw.hNext ⟨HS, HXv⟩ ?_
        refine Fw.hAll1 6 (by kernel_rfl) ?_
        refine Fw.hOp 6 rfl ?_
        refine Fw.call cf21 rfl rfl (clone_any _ r.k A3 r.b c3 HBd.1 (by omega)) ?_
        rintro e_ w15 ⟨A61, c61, rfl, HC, hb_⟩
        refine ⟨_, rfl, ?_⟩
        have hgC : ∀ k_, g = some k_ → k_ < w14.heap.size := fun k_ e_ => (HF.lt_.2.2 k_ e_).1
        replace HF := HF.low_ hb_
        replace HDt := own_below HDt hb_ (Nat.le_refl _)
        replace HJ := HJ.low hb_
        replace HU := own_below HU hb_ (Nat.le_refl _)
        replace HO := HO.low hb_ (Nat.le_trans hBw HB.size)
        replace HBd := HBd.low hb_ (Nat.le_trans hBw HB.size)
        replace HXv := HXv.low hb_
        replace HS := HS.trans (hb_.mono (Nat.le_trans hBr HS.size))
        replace HB := HB.trans (hb_.mono (Nat.le_trans hBw HB.size))
        clear hb_
        refine Fw.hNext ⟨HS, HXv⟩ ?_
        refine Fw.hAll1 7 (by kernel_rfl) ?_
        refine Fw.hOp 7 rfl ?_
        refine Fw.buildSlice [_] sl59 rfl rfl (by exact Fw.allSz rfl) (by decide) rfl ?_
        intro w16 gS62 egS62 HS62 hb
        have rgS62 : w9.heap.size ≤ gS62 := by have := HS.size; omega
        have n_gJ_gS62 : gJ < gS62 := by have := HJ.lt; omega
        have n_gXv_gS62 : gXv < gS62 := by have := HXv.lt; omega
        have lgS62 : B ≤ gS62 := by have := (Nat.le_trans hBw HB.size); omega
        replace HF := HF.low_ hb
        replace HDt := own_below HDt hb (Nat.le_refl _)
        replace HJ := HJ.low hb
        replace HU := own_below HU hb (Nat.le_refl _)
        replace HO := HO.low hb (Nat.le_trans hBw HB.size)
        replace HBd := HBd.low hb (Nat.le_trans hBw HB.size)
        replace HXv := HXv.low hb
        replace HS := HS.trans (hb.mono (Nat.le_trans hBr HS.size))
        replace HC := own_below HC hb (Nat.le_refl _)
        replace HB := HB.trans (hb.mono (Nat.le_trans hBw HB.size))
        clear hb
        clear egS62
        refine Fw.hNext ⟨HS, HXv⟩ ?_
        refine Fw.hAll1 8 (by kernel_rfl) ?_
        refine Fw.hOp 8 rfl ?_
        refine Fw.append (base := B) (L ++ [(⟨r.k, r.b, A61, c61⟩ : Rv)]).length ((L ++ [(⟨r.k, r.b, A61, c61⟩ : Rv)]).flatMap Rv.cells) sl59 rfl rfl HO.1 (Fw.rdBlk HS62) rfl (Fw.oneCellsL rfl) (by unfold maxLen; omega) (Nat.le_trans hBw HB.size) (by simp) (by rw [List.flatMap_append]; rfl) rfl ?_
        intro A63 c63 w17 N_ hbb hc _
        have HO2 := RecO.snoc HO (by decide) (Bod.new HC hgC) N_ hc hbb
        have hK0 := Kf.row (g := none) HO.1 hc hbb
        have hK := hK0.any g
        replace HF := HF.kf0 hK0 (by decide) (by decide)
        replace HDt := own_kf0 HDt hK0 (by decide)
        replace HJ := HJ.kf hK (by decide) (by decide)
        replace HU := own_kf HU hK (by decide) (by decide)
        replace HBd := HBd.kf hK0 (by decide) (.inl rfl)
        replace HXv := HXv.chg hc (hxo)
        replace HS := HS.trans hK.low
        replace HB := HB.trans hK.low
        clear hK hK0
        clear hbb hc HO N_
        have HO := HO2
        clear HO2
        refine Fw.hNext ⟨HS, HXv⟩ ?_
        refine Fw.hTake 9 rfl rfl (by kernel_rfl) (by kernel_rfl) (by kernel_rfl) (Fw.yV (Fw.val_nil rfl)) rfl ?_
        refine Fw.hTake 10 rfl rfl (by kernel_rfl) (by kernel_rfl) (by kernel_rfl) (Fw.yV (Fw.val_fieldAddr fl62_1 rfl rfl)) rfl ?_
        refine Fw.hAll1 11 (by kernel_rfl) ?_
        refine Fw.hOp 11 rfl ?_
        refine Fw.store sz59 rfl rfl HJ rfl rfl rfl ?_
        intro w18 N_ hc
        have hK0 := Kf.box (B := B) (g := none) HJ hc (by omega)
        have hK := hK0.any g
        replace HF := HF.kf0 hK0 (by decide) (by decide)
        replace HDt := own_kf0 HDt hK0 (by decide)
        replace HU := own_kf HU hK (by decide) (by decide)
        replace HO := HO.kf hK (by decide) (by decide) (by decide) (.inl rfl)
        replace HBd := HBd.kf hK0 (by decide) (.inl rfl)
        replace HXv := HXv.kf hK (by decide) (by decide)
        replace HS := HS.trans hK.low
        replace HB := HB.trans hK.low
        clear hK hK0
        clear hc
        clear HJ
        have HJ := N_
        clear N_
        refine Fw.hNext ⟨HS, HXv⟩ ?_
        refine Fw.hDone (by kernel_rfl) ?_
        have HJX : ∃ (v' : Rv) (A1x : Option Addr) (c1x : Nat), v'.r = r ∧ Blk _ gJ 62 #[.pointer (some ⟨pf, 0, none⟩), .slice A1x (L ++ [v']).length c1x, .slice A2_ (Jr.sums (rs L)).length c2_] ∧ RecO _ g B B 64 A1x c1x (L ++ [v']) := ⟨(⟨r.k, r.b, A61, c61⟩ : Rv), _, _, rfl, HJ, HO⟩
        exact hK18 _ _ ⟨HJX, HF, HU, HDt, HB⟩ (.cons rfl (.cons rfl (.cons rfl (.cons rfl (.cons rfl .nil)))))
      · skip
        refine Fw.hOp 6 rfl ?_
        refine Fw.call cf21 rfl rfl (clone_any _ r.k A3 r.b c3 HBd.1 (by omega)) ?_
        rintro e_ w19 ⟨A61, c61, rfl, HC, hb_⟩
        refine ⟨_, rfl, ?_⟩
        have hgC : ∀ k_, g = some k_ → k_ < w14.heap.size := fun k_ e_ => (HF.lt_.2.2 k_ e_).1
        replace HF := HF.low_ hb_
        replace HDt := own_below HDt hb_ (Nat.le_refl _)
        replace HJ := HJ.low hb_
        replace HU := own_below HU hb_ (Nat.le_refl _)
        replace HO := HO.low hb_ (Nat.le_trans hBw HB.size)
        replace HBd := HBd.low hb_ (Nat.le_trans hBw HB.size)
        replace HXv := HXv.low hb_
        replace HS := HS.trans (hb_.mono (Nat.le_trans hBr HS.size))
        replace HB := HB.trans (hb_.mono (Nat.le_trans hBw HB.size))
        clear hb_
        refine Fw.hNext ⟨HS, HXv⟩ ?_
        refine Fw.hAll2 4 7 (by kernel_rfl) ?_ ?_
        · skip
          refine Fw.hOp 4 rfl ?_
          refine Fw.ld sc59 rfl (HJ.cell 1) rfl ?_
          refine Fw.hNext ⟨HS, HXv⟩ ?_
          refine Fw.hAll1 7 (by kernel_rfl) ?_
          refine Fw.hOp 7 rfl ?_
          refine Fw.buildSlice [_] sl59 rfl rfl (by exact Fw.allSz rfl) (by decide) rfl ?_
          intro w20 gS62 egS62 HS62 hb
          have rgS62 : w9.heap.size ≤ gS62 := by have := HS.size; omega
          have n_gJ_gS62 : gJ < gS62 := by have := HJ.lt; omega
          have n_gXv_gS62 : gXv < gS62 := by have := HXv.lt; omega
          have lgS62 : B ≤ gS62 := by have := (Nat.le_trans hBw HB.size); omega
          replace HF := HF.low_ hb
          replace HDt := own_below HDt hb (Nat.le_refl _)
          replace HJ := HJ.low hb
          replace HU := own_below HU hb (Nat.le_refl _)
          replace HO := HO.low hb (Nat.le_trans hBw HB.size)
          replace HBd := HBd.low hb (Nat.le_trans hBw HB.size)
          replace HXv := HXv.low hb
          replace HS := HS.trans (hb.mono (Nat.le_trans hBr HS.size))
          replace HC := own_below HC hb (Nat.le_refl _)
          replace HB := HB.trans (hb.mono (Nat.le_trans hBw HB.size))
          clear hb
          clear egS62
          refine Fw.hNext ⟨HS, HXv⟩ ?_
          refine Fw.hAll1 8 (by kernel_rfl) ?_
          refine Fw.hOp 8 rfl ?_
          refine Fw.append (base := B) (L ++ [(⟨r.k, r.b, A61, c61⟩ : Rv)]).length ((L ++ [(⟨r.k, r.b, A61, c61⟩ : Rv)]).flatMap Rv.cells) sl59 rfl rfl HO.1 (Fw.rdBlk HS62) rfl (Fw.oneCellsL rfl) (by unfold maxLen; omega) (Nat.le_trans hBw HB.size) (by simp) (by rw [List.flatMap_append]; rfl) rfl ?_
          intro A63 c63 w21 N_ hbb hc _
          have HO2 := RecO.snoc HO (by decide) (Bod.new HC hgC) N_ hc hbb
          have hK0 := Kf.row (g := none) HO.1 hc hbb
          have hK := hK0.any g
          replace HF := HF.kf0 hK0 (by decide) (by decide)
          replace HDt := own_kf0 HDt hK0 (by decide)
          replace HJ := HJ.kf hK (by decide) (by decide)
          replace HU := own_kf HU hK (by decide) (by decide)
          replace HBd := HBd.kf hK0 (by decide) (.inl rfl)
          replace HXv := HXv.chg hc (hxo)
          replace HS := HS.trans hK.low
          replace HB := HB.trans hK.low
          clear hK hK0
          clear hbb hc HO N_
          have HO := HO2
          clear HO2
          refine Fw.hNext ⟨HS, HXv⟩ ?_
          refine Fw.hTake 9 rfl rfl (by kernel_rfl) (by kernel_rfl) (by kernel_rfl) (Fw.yV (Fw.val_nil rfl)) rfl ?_
          refine Fw.hTake 10 rfl rfl (by kernel_rfl) (by kernel_rfl) (by kernel_rfl) (Fw.yV (Fw.val_fieldAddr fl62_1 rfl rfl)) rfl ?_
          refine Fw.hAll1 11 (by kernel_rfl) ?_
          refine Fw.hOp 11 rfl ?_
          refine Fw.store sz59 rfl rfl HJ rfl rfl rfl ?_
          intro w22 N_ hc
          have hK0 := Kf.box (B := B) (g := none) HJ hc (by omega)
          have hK := hK0.any g
          replace HF := HF.kf0 hK0 (by decide) (by decide)
          replace HDt := own_kf0 HDt hK0 (by decide)
          replace HU := own_kf HU hK (by decide) (by decide)
          replace HO := HO.kf hK (by decide) (by decide) (by decide) (.inl rfl)
          replace HBd := HBd.kf hK0 (by decide) (.inl rfl)
          replace HXv := HXv.kf hK (by decide) (by decide)
          replace HS := HS.trans hK.low
          replace HB := HB.trans hK.low
          clear hK hK0
          clear hc
          clear HJ
          have HJ := N_
          clear N_
          refine Fw.hNext ⟨HS, HXv⟩ ?_
          refine Fw.hDone (by kernel_rfl) ?_
          have HJX : ∃ (v' : Rv) (A1x : Option Addr) (c1x : Nat), v'.r = r ∧ Blk _ gJ 62 #[.pointer (some ⟨pf, 0, none⟩), .slice A1x (L ++ [v']).length c1x, .slice A2_ (Jr.sums (rs L)).length c2_] ∧ RecO _ g B B 64 A1x c1x (L ++ [v']) := ⟨(⟨r.k, r.b, A61, c61⟩ : Rv), _, _, rfl, HJ, HO⟩
          exact hK18 _ _ ⟨HJX, HF, HU, HDt, HB⟩ (.cons rfl (.cons rfl (.cons rfl (.cons rfl (.cons rfl .nil)))))
        · skip
          refine Fw.hOp 7 rfl ?_
          refine Fw.buildSlice [_] sl59 rfl rfl (by exact Fw.allSz rfl) (by decide) rfl ?_
          intro w23 gS62 egS62 HS62 hb
          have rgS62 : w9.heap.size ≤ gS62 := by have := HS.size; omega
          have n_gJ_gS62 : gJ < gS62 := by have := HJ.lt; omega
          have n_gXv_gS62 : gXv < gS62 := by have := HXv.lt; omega
          have lgS62 : B ≤ gS62 := by have := (Nat.le_trans hBw HB.size); omega
          replace HF := HF.low_ hb
          replace HDt := own_below HDt hb (Nat.le_refl _)
          replace HJ := HJ.low hb
          replace HU := own_below HU hb (Nat.le_refl _)
          replace HO := HO.low hb (Nat.le_trans hBw HB.size)
          replace HBd := HBd.low hb (Nat.le_trans hBw HB.size)
          replace HXv := HXv.low hb
          replace HS := HS.trans (hb.mono (Nat.le_trans hBr HS.size))
          replace HC := own_below HC hb (Nat.le_refl _)
          replace HB := HB.trans (hb.mono (Nat.le_trans hBw HB.size))
          clear hb
          clear egS62
          refine Fw.hNext ⟨HS, HXv⟩ ?_
          refine Fw.hAll1 4 (by kernel_rfl) ?_
          refine Fw.hOp 4 rfl ?_
          refine Fw.ld sc59 rfl (HJ.cell 1) rfl ?_
          refine Fw.hNext ⟨HS, HXv⟩ ?_
          refine Fw.hAll1 8 (by kernel_rfl) ?_
          refine Fw.hOp 8 rfl ?_
          refine Fw.append (base := B) (L ++ [(⟨r.k, r.b, A61, c61⟩ : Rv)]).length ((L ++ [(⟨r.k, r.b, A61, c61⟩ : Rv)]).flatMap Rv.cells) sl59 rfl rfl HO.1 (Fw.rdBlk HS62) rfl (Fw.oneCellsL rfl) (by unfold maxLen; omega) (Nat.le_trans hBw HB.size) (by simp) (by rw [List.flatMap_append]; rfl) rfl ?_
          intro A63 c63 w24 N_ hbb hc _
          have HO2 := RecO.snoc HO (by decide) (Bod.new HC hgC) N_ hc hbb
          have hK0 := Kf.row (g := none) HO.1 hc hbb
          have hK := hK0.any g
          replace HF := HF.kf0 hK0 (by decide) (by decide)
          replace HDt := own_kf0 HDt hK0 (by decide)
          replace HJ := HJ.kf hK (by decide) (by decide)
          replace HU := own_kf HU hK (by decide) (by decide)
          replace HBd := HBd.kf hK0 (by decide) (.inl rfl)
          replace HXv := HXv.chg hc (hxo)
          replace HS := HS.trans hK.low
          replace HB := HB.trans hK.low
          clear hK hK0
          clear hbb hc HO N_
          have HO := HO2
          clear HO2
          refine Fw.hNext ⟨HS, HXv⟩ ?_
          refine Fw.hTake 9 rfl rfl (by kernel_rfl) (by kernel_rfl) (by kernel_rfl) (Fw.yV (Fw.val_nil rfl)) rfl ?_
          refine Fw.hTake 10 rfl rfl (by kernel_rfl) (by kernel_rfl) (by kernel_rfl) (Fw.yV (Fw.val_fieldAddr fl62_1 rfl rfl)) rfl ?_
          refine Fw.hAll1 11 (by kernel_rfl) ?_
          refine Fw.hOp 11 rfl ?_
          refine Fw.store sz59 rfl rfl HJ rfl rfl rfl ?_
          intro w25 N_ hc
          have hK0 := Kf.box (B := B) (g := none) HJ hc (by omega)
          have hK := hK0.any g
          replace HF := HF.kf0 hK0 (by decide) (by decide)
          replace HDt := own_kf0 HDt hK0 (by decide)
          replace HU := own_kf HU hK (by decide) (by decide)
          replace HO := HO.kf hK (by decide) (by decide) (by decide) (.inl rfl)
          replace HBd := HBd.kf hK0 (by decide) (.inl rfl)
          replace HXv := HXv.kf hK (by decide) (by decide)
          replace HS := HS.trans hK.low
          replace HB := HB.trans hK.low
          clear hK hK0
          clear hc
          clear HJ
          have HJ := N_
          clear N_
          refine Fw.hNext ⟨HS, HXv⟩ ?_
          refine Fw.hDone (by kernel_rfl) ?_
          have HJX : ∃ (v' : Rv) (A1x : Option Addr) (c1x : Nat), v'.r = r ∧ Blk _ gJ 62 #[.pointer (some ⟨pf, 0, none⟩), .slice A1x (L ++ [v']).length c1x, .slice A2_ (Jr.sums (rs L)).length c2_] ∧ RecO _ g B B 64 A1x c1x (L ++ [v']) := ⟨(⟨r.k, r.b, A61, c61⟩ : Rv), _, _, rfl, HJ, HO⟩
          exact hK18 _ _ ⟨HJX, HF, HU, HDt, HB⟩ (.cons rfl (.cons rfl (.cons rfl (.cons rfl (.cons rfl .nil)))))
  · rintro hs
    refine Fw.alloc ze64 rfl ?_
    intro w26 gXv egXv HXv hb
    have hxo : ¬ some gXv = (Value.slice A1_ L.length c1_).ownBlock := HO.out (by omega)
    have n_gJ_gXv : gJ < gXv := by have := HJ.lt; omega
    have lgXv : B ≤ gXv := by have := (Nat.le_trans hBw HB.size); omega
    replace HF := HF.low_ hb
    replace HDt := own_below HDt hb (Nat.le_refl _)
    replace HJ := HJ.low hb
    replace HU := own_below HU hb (Nat.le_refl _)
    replace HO := HO.low hb (Nat.le_trans hBw HB.size)
    replace HBd := HBd.low hb (Nat.le_trans hBw HB.size)
    replace HB := HB.trans (hb.mono (Nat.le_trans hBw HB.size))
    clear hb
    clear egXv
    refine Fw.storeW sz64 rfl rfl HXv rfl rfl (by exact Fw.oneCells rfl) ?_
    intro w27 N_ hc
    have hK0 := Kf.box (B := B) (g := none) HXv hc (by omega)
    have hK := hK0.any g
    replace HF := HF.kf0 hK0 (by decide) (by decide)
    replace HDt := own_kf0 HDt hK0 (by decide)
    replace HJ := HJ.kf hK (by decide) (by decide)
    replace HU := own_kf HU hK (by decide) (by decide)
    replace HO := HO.box HXv hc (by omega) (Nat.le_trans hBw HB.size) hxo (by decide)
    replace HBd := HBd.kf hK0 (by decide) (.inl rfl)
    replace HB := HB.trans hK.low
    clear hK hK0
    clear hc
    clear HXv
    have HXv := N_
    clear N_
    refine Fw.s (Fw.val_assign rfl) rfl ?_
    refine Fw.s (Fw.val_assign rfl) rfl ?_
    refine Fw.s (Fw.val_assign rfl) rfl ?_
    refine Fw.nil ?_
    refine hK13 _ _ (Fw.FC.sub (f' := [(12, _), (11, _), (10, _), (9, _), (8, _), (6, _), (4, _), (0, _)]) (.cons rfl (.cons rfl (.cons rfl (.cons rfl (.cons rfl (.cons rfl (.cons rfl (.cons rfl .nil)))))))) ?_)
    refine Fw.seq fun _ hK19 => ?_
    refine Fw.seq fun _ hK20 => ?_
    refine Fw.region ?_
    refine Fw.s (Fw.val_move rfl) rfl ?_
    refine Fw.s (Fw.val_not rfl) rfl ?_
    refine Fw.nil ?_
    refine hK20 _ _ ?_
    refine Fw.condT rfl ?_
    refine Fw.exit ?_
    refine Fw.X_exit ?_
    refine Fw.X_blockO rfl ?_
    refine Fw.X_exit ?_
    refine Fw.X_block ?_
    refine hK11 _ _ (Fw.FC.sub (f' := [(8, _), (6, _), (0, _)]) (.cons rfl (.cons rfl (.cons rfl .nil))) ?_)
    refine Fw.seq fun _ hK21 => ?_
    refine Fw.seq fun _ hK22 => ?_
    have hf : Jr.first (Jr.sealF Jr.s0 (rs L)) (D.drop n) = none := by
      cases h_ : Jr.first (Jr.sealF Jr.s0 (rs L)) (D.drop n) with
      | none => rfl
      | some x => rw [h_] at hs; cases hs
    have hV : Jr.Val Jr.s0 D (rs L) n := ⟨hn, hp, hok, hf⟩
    refine Fw.region ?_
    refine Fw.s (Fw.val_move rfl) rfl ?_
    refine Fw.s (Fw.val_move rfl) rfl ?_
    refine Fw.call cf22 rfl rfl (truncate_any _ B pf g ⟨D, n0, false⟩ (n : Nat) HF ⟨hl.1, by show D.length ≤ _; omega⟩) ?_
    rintro e_ w28 ⟨rfl, hto⟩
    refine ⟨_, rfl, ?_⟩
    obtain ⟨g2, HF2, hc, hg2⟩ := hto
    have hK := Kf.file HF hc
    replace HJ := HJ.kf hK (by decide) (by decide)
    replace HU := own_kf HU hK (by decide) (by decide)
    replace HO := HO.kf hK (by decide) (by decide) (by decide) hg2
    replace HB := HB.trans hK.low
    clear hK
    clear HF hc
    have HF := HF2
    clear HF2
    rw [show St.short ⟨D, n0, false⟩ (n : Nat) = ⟨D.take n, min n0 n, false⟩ by unfold St.short; rw [if_pos (by show (0 : Int) ≤ (n : Nat) ∧ ((n : Nat) : Int) ≤ (D.length : Nat); omega)]; rfl] at HF
    refine Fw.s (Fw.val_assign rfl) rfl ?_
    refine Fw.nil ?_
    refine hK22 _ _ ?_
    refine Fw.seq fun _ hK23 => ?_
    refine Fw.region ?_
    refine Fw.s (Fw.val_move rfl) rfl ?_
    refine Fw.s (Fw.Val.F (Fw.val_bin rfl rfl Fw.b_neq) (by unfold St.shortE; rw [if_pos (by show (0 : Int) ≤ (n : Nat) ∧ ((n : Nat) : Int) ≤ (D.length : Nat); omega)]; exact fun h_ => h_ rfl)) rfl ?_
    refine Fw.nil ?_
    refine hK23 _ _ ?_
    refine Fw.condF rfl ?_
    refine Fw.skip ?_
    refine hK21 _ _ (Fw.FC.sub (f' := [(6, _), (0, _)]) (.cons rfl (.cons rfl .nil)) ?_)
    refine Fw.seq fun _ hK24 => ?_
    refine Fw.seq fun _ hK25 => ?_
    refine Fw.region ?_
    refine Fw.s (Fw.val_move rfl) rfl ?_
    refine Fw.call cf23 rfl rfl (sync_any _ B pf g2 ⟨D.take n, min n0 n, false⟩ HF (by show (D.take n).length ≤ _; rw [List.length_take]; omega)) ?_
    rintro e_ w29 ⟨rfl, hto⟩
    refine ⟨_, rfl, ?_⟩
    obtain ⟨g3, HF2, hc, hg3⟩ := hto
    have hK := Kf.file HF hc
    replace HJ := HJ.kf hK (by decide) (by decide)
    replace HU := own_kf HU hK (by decide) (by decide)
    replace HO := HO.kf hK (by decide) (by decide) (by decide) hg3
    replace HB := HB.trans hK.low
    clear hK
    clear HF hc
    have HF := HF2
    clear HF2
    refine Fw.s (Fw.val_assign rfl) rfl ?_
    refine Fw.nil ?_
    refine hK25 _ _ ?_
    refine Fw.seq fun _ hK26 => ?_
    refine Fw.region ?_
    refine Fw.s (Fw.val_move rfl) rfl ?_
    refine Fw.s (Fw.Val.F (Fw.val_bin rfl rfl Fw.b_neq) (by exact fun h_ => h_ rfl)) rfl ?_
    refine Fw.nil ?_
    refine hK26 _ _ ?_
    refine Fw.condF rfl ?_
    refine Fw.skip ?_
    refine hK24 _ _ ?_
    refine Fw.seq fun _ hK27 => ?_
    refine Fw.region ?_
    refine Fw.s (Fw.val_move rfl) rfl ?_
    refine Fw.s (Fw.val_assign rfl) rfl ?_
    refine Fw.s (Fw.val_assign rfl) rfl ?_
    refine Fw.nil ?_
    refine hK27 _ _ (Fw.FC.sub (f' := [(3, _), (2, _)]) (.cons rfl (.cons rfl .nil)) ?_)
    refine Fw.ret ?_
    refine Fw.ret_ [.tmp 2, .tmp 3] [_, _] Try.results7 (.tmp rfl (.tmp rfl .nil)) ?_
    exact ⟨gJ, g3, L, n, rfl, hV, ⟨lgJ, HF, _, _, _, _, HJ, HO, HU⟩, hLn, HB⟩

end Go.Proofs.Ytgpdodhegacndaa
