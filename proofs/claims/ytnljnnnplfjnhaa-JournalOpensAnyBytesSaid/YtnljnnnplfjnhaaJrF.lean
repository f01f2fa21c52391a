/- Layer 20: the reference reads. -/
import Derived.Test.YtnljnnnplfjnhaaJrE
namespace Go.Proofs.Ytnljnnnplfjnhaa
set_option linter.unusedSimpArgs false
set_option linter.unusedVariables false
open Go.RowKit

namespace Jr
theorem dec_ne0 : ∀ (l : List Int) (i acc : Nat), Wr.dec i acc l ≠ .error 0 := by
  intro l
  induction l with
  | nil => intro i acc h; rw [Wr.dec_nil] at h; injection h with h; cases h
  | cons c l ih =>
    intro i acc h
    rw [Wr.dec] at h
    split at h
    · injection h with h; cases h
    · split at h
      · cases h
      · exact ih _ _ h
theorem rdK_ok {b : List Int} (h : ¬ (Wr.rdK ⟨b, 0⟩).e ≠ 0) : ∃ u r, Wr.dec 0 0 b = .ok (u, r) ∧ Wr.rdK ⟨b, 0⟩ = ⟨r, 0⟩ ∧ Wr.rdV ⟨b, 0⟩ = Wr.unzz u := by
  cases hd : Wr.dec 0 0 b with
  | ok x =>
    obtain ⟨u, r⟩ := x
    obtain ⟨_, h2, h3⟩ := Wr.rd_e0 (r := ⟨b, 0⟩) rfl hd
    exact ⟨u, r, rfl, h3, h2⟩
  | error x =>
    obtain ⟨_, _, h3⟩ := Wr.rd_e1 (r := ⟨b, 0⟩) rfl hd
    rw [h3] at h
    exact absurd (fun e => by subst e; exact dec_ne0 _ _ _ hd) h
theorem rdK_bad {b : List Int} (h : (Wr.rdK ⟨b, 0⟩).e ≠ 0) : rl b = none := by
  unfold rl
  cases hd : Wr.dec 0 0 b with
  | ok x =>
    obtain ⟨u, r⟩ := x
    obtain ⟨_, h2, h3⟩ := Wr.rd_e0 (r := ⟨b, 0⟩) rfl hd
    rw [h3] at h
    exact absurd rfl h
  | error x => rfl
theorem rl_out {b r : List Int} {u : Nat} (hd : Wr.dec 0 0 b = .ok (u, r)) (h : ¬ (0 ≤ Wr.unzz u ∧ Wr.unzz u ≤ 8192)) : rl b = none := by unfold rl; rw [hd]; exact if_neg h
theorem first_lack {s : Int} {b r : List Int} {u : Nat} (hb : Ck.Bts b) (hd : Wr.dec 0 0 b = .ok (u, r)) (h0 : 0 ≤ Wr.unzz u ∧ Wr.unzz u ≤ 8192) (hl : (r.length : Int) < Wr.unzz u + 9) : first s b = none := by
  have e := dec_canon0 hb hd
  have hlen : b.length = (Wr.vint u).length + r.length := by rw [e, List.length_append]
  have hr : rl b = some ((Wr.unzz u).toNat, b.length - r.length) := by unfold rl; rw [hd]; exact if_pos h0
  exact first_short hr (by omega)
theorem one_len (s : Int) (r : R) : (one s r).length = (Wr.enc (r.b.length : Nat)).length + r.b.length + 9 := by unfold one; simp [Ck.bytesI_length]; omega
theorem first_ref {s : Int} {b r : List Int} {u n : Nat} (hb : Ck.Bts b) (hd : Wr.dec 0 0 b = .ok (u, r)) (hn : Wr.unzz u = (n : Nat)) (h1 : n ≤ 8192) (hl : n + 9 ≤ r.length) (x : R) (hx : x = ⟨r[0], (r.drop 1).take n⟩) :
    x.ok ∧ x.b.length = n ∧ (one s x).length ≤ b.length ∧ (b.take (one s x).length = one s x → first s b = some (x, (one s x).length)) ∧ (b.take (one s x).length ≠ one s x → first s b = none) := by
  have e := dec_canon0 hb hd
  rw [unzz_nonneg (by omega), hn] at e
  have hxl : x.b.length = n := by rw [hx]; simp; omega
  have hrb : Ck.Bts r := fun y hy => hb y (by rw [e]; simp [hy])
  refine ⟨⟨by rw [hx]; exact hrb _ (List.getElem_mem _), by rw [hx]; exact fun y hy => hrb y (List.mem_of_mem_drop (List.mem_of_mem_take hy))⟩, hxl, ?_, fun h => ?_, fun h => ?_⟩
  · rw [one_len, hxl, e, List.length_append]; omega
  · have hb2 : b = one s x ++ b.drop (one s x).length := by conv => lhs; rw [← List.take_append_drop (one s x).length b, h]
    rw [hb2]; exact first_one (by omega) _
  · cases hf : first s b with
    | none => rfl
    | some y =>
      obtain ⟨y, n'⟩ := y
      exfalso
      obtain ⟨h2, h3, h4, h5, h6⟩ := first_some hb hf
      have e2 : b = Wr.enc (y.b.length : Nat) ++ (y.k :: (y.b ++ (Ck.bytesI (next s y) ++ b.drop n'))) := by conv => lhs; rw [h6]; unfold one; simp
      have hd2 := Wr.dec_enc (n := (y.b.length : Nat)) (by unfold Wr.I64; omega) (y.k :: (y.b ++ (Ck.bytesI (next s y) ++ b.drop n')))
      rw [← e2, hd] at hd2
      injection hd2 with hd2; injection hd2 with e3 e4
      have hny : n = y.b.length := by
        have := Wr.unzz_zz (n := (y.b.length : Nat))
        rw [← e3, hn] at this
        omega
      have hxy : x = y := by
        rw [hx]
        subst e4
        subst hny
        cases y
        simp
      apply h
      rw [hxy, ← h5]
      conv => lhs; rw [h6]
      rw [h5, List.take_left]
theorem bstr_inj {a b : List Int} (ha : Ck.Bts a) (hb : Ck.Bts b) (h : bstr a = bstr b) : a = b := by
  unfold bstr at h
  have h1 : (a.map fun n => UInt8.ofNat n.toNat) = (b.map fun n => UInt8.ofNat n.toNat) := by
    injection h with h; simpa using h
  have key : ∀ (a b : List Int), Ck.Bts a → Ck.Bts b → (a.map fun n => UInt8.ofNat n.toNat) = (b.map fun n => UInt8.ofNat n.toNat) → a = b := by
    intro a
    induction a with
    | nil => intro b _ _ h; cases b with
      | nil => rfl
      | cons y b => cases h
    | cons x a ih =>
      intro b ha hb h
      cases b with
      | nil => cases h
      | cons y b =>
        simp only [List.map_cons, List.cons.injEq] at h
        have hx := ha x (by simp)
        have hy := hb y (by simp)
        have hxy : x.toNat = y.toNat := by
          have := congrArg UInt8.toNat h.1
          simp only [UInt8.toNat_ofNat'] at this
          omega
        rw [ih b (fun z hz => ha z (by simp [hz])) (fun z hz => hb z (by simp [hz])) h.2, show x = y by omega]
  exact key a b ha hb h1
theorem one_bts (s : Int) {r : R} (h : r.ok) : Ck.Bts (one s r) := by
  unfold one
  intro x hx
  simp only [List.mem_append, List.mem_cons] at hx
  rcases hx with hx | rfl | hx | hx
  · exact Wr.enc_bts _ x hx
  · exact h.1
  · exact h.2 x hx
  · exact Ck.bytesI_bts _ x hx
end Jr

set_option maxRecDepth 100000 in
set_option maxHeartbeats 1000000 in
theorem jfirst_any (w : World) (s : Int) (A : Option Addr) (b : List Int) (c : Nat) (h : Rd w A (b.map (.int .u8))) (hb : Ck.Bts b) (hl : b.length ≤ 1000000) (hc : b.length ≤ c) (hs : Ck.U64 s) : Calls Try.prog 40 #[.int .u64 s, .slice A b.length c] w fun e_ w' => ∃ A' c', e_ = .returned (.tuple #[.agg #[.int .u8 (Jr.fR s b).k, .slice A' (Jr.fR s b).b.length c'], .int .i64 (Jr.fN s b), .bool (Jr.first s b).isSome]) ∧ w'.ownsRow w.heap.size 5 1 (.slice A' (Jr.fR s b).b.length c') (Jr.fR s b).b.length ((Jr.fR s b).b.map (.int .u8)) ∧ Below w.heap.size w w' := by
  refine Fw.calls Try.func40 rfl Try.ntmps40 rfl ?_
  have HB := Below.refl (w.heap.size) w
  refine Fw.seq fun _ hK1 => ?_
  refine Fw.region ?_
  refine Fw.alloc ze28 rfl ?_
  intro w1 gXr egXr HXr hb
  have lgXr : w.heap.size ≤ gXr := by have := HB.size; omega
  replace HB := HB.trans (hb.mono HB.size)
  clear hb
  clear egXr
  refine Fw.s (Fw.val_assign rfl) rfl ?_
  refine Fw.s (Fw.val_assign rfl) rfl ?_
  refine Fw.nil ?_
  refine hK1 _ _ ?_
  refine Fw.seq fun _ hK2 => ?_
  refine Fw.region ?_
  refine Fw.buildSlice [] sl26 rfl rfl (by exact Fw.allSz rfl) (by decide) rfl ?_
  intro w2 gS11 egS11 HS11 hb
  have n_gXr_gS11 : gXr < gS11 := by have := HXr.lt; omega
  have lgS11 : w.heap.size ≤ gS11 := by have := HB.size; omega
  replace HXr := HXr.low hb
  replace HB := HB.trans (hb.mono HB.size)
  clear hb
  clear egS11
  refine Fw.s (Fw.val_move rfl) rfl ?_
  refine Fw.append (base := w.heap.size) b.length (b.map (.int .u8)) slU8 rfl rfl (Fw.own_blk (n := 0) HS11 lgS11 (by decide) rfl) (h.low HB) (by simp) oneCell_ints (⟨by unfold maxLen; omega, by omega⟩) HB.size (by simp) rfl rfl ?_
  intro A13 c13 w3 N_ hbb hc _
  replace HXr := HXr.chg hc (by simp [Value.ownBlock]; omega)
  replace HB := HB.trans hbb
  clear hbb hc
  have HQ := N_
  clear N_
  refine Fw.s (Fw.val_build (ps := [(0, _)]) rfl (bu92_0 _ _ _)) rfl ?_
  refine Fw.box rfl rfl ?_
  intro w4 gXf egXf HXf hb
  have hfl : ∀ ad, A13 = some ad → ad.block < gXf := fun ad e => by have := (HQ.lt ad.block (by rw [e]; rfl)).2; omega
  have n_gXr_gXf : gXr < gXf := by have := HXr.lt; omega
  have lgXf : w.heap.size ≤ gXf := by have := HB.size; omega
  replace HXr := HXr.low hb
  replace HQ := own_below HQ hb (Nat.le_refl _)
  replace HB := HB.trans (hb.mono HB.size)
  clear hb
  clear egXf
  refine Fw.s (Fw.val_assign rfl) rfl ?_
  refine Fw.nil ?_
  refine hK2 _ _ (Fw.FC.sub (f' := [(7, _), (4, _), (0, _), (1, _)]) (.cons rfl (.cons rfl (.cons rfl (.cons rfl .nil)))) ?_)
  refine Fw.seq fun _ hK3 => ?_
  have HRf : RfAt w4 gXf ⟨b, 0⟩ := ⟨A13, c13, HXf, Rd.of_own HQ, (own_cap HQ).1, (own_cap HQ).2, hfl⟩
  clear HXf HQ
  refine Fw.region ?_
  refine Fw.s (Fw.val_move rfl) rfl ?_
  refine Fw.call cf49 rfl rfl (refRead_any _ gXf ⟨b, 0⟩ HRf (fun x hx => hb x hx)) ?_
  rintro e_ w5 ⟨rfl, HRf2, hc⟩
  refine ⟨_, rfl, ?_⟩
  replace HXr := HXr.chg hc (by omega)
  replace HB := HB.trans (hc.below (B := w.heap.size) (fun k e => by omega) HB.size)
  clear hc
  clear HRf
  have HRf := HRf2
  clear HRf2
  refine Fw.s (Fw.val_assign rfl) rfl ?_
  refine Fw.nil ?_
  refine hK3 _ _ ?_
  refine Fw.seq fun _ hK4 => ?_
  refine Fw.seq fun _ hK5 => ?_
  obtain ⟨A5, c5, HRb, HRr, hq1, hq2, -⟩ := HRf
  refine Fw.region ?_
  refine Fw.s (Fw.val_move rfl) rfl ?_
  refine Fw.s (Fw.val_nil rfl) rfl ?_
  refine Fw.s (Fw.val_fieldAddr fl92_1 rfl rfl) rfl ?_
  refine Fw.ld sc31 rfl (HRb.cell 1) rfl ?_
  refine Fw.s2 (Fw.val_bin rfl rfl Fw.b_neq) rfl ?_ ?_
  · rintro he
    refine Fw.s (Fw.val_move rfl) rfl ?_
    have hrl := Jr.rdK_bad he
    refine Fw.gF (d := 23) rfl rfl rfl rfl ?_
    refine Fw.gF (d := 23) rfl rfl rfl rfl ?_
    refine Fw.s (Fw.val_pickT rfl rfl) rfl ?_
    refine Fw.s (Fw.val_move rfl) rfl ?_
    refine Fw.gF (d := 27) rfl rfl rfl rfl ?_
    refine Fw.gF (d := 27) rfl rfl rfl rfl ?_
    refine Fw.s (Fw.val_pickT rfl rfl) rfl ?_
    refine Fw.s (Fw.val_move rfl) rfl ?_
    refine Fw.gF (d := 31) rfl rfl rfl rfl ?_
    refine Fw.gF (d := 31) rfl rfl rfl rfl ?_
    refine Fw.gF (d := 31) rfl rfl rfl rfl ?_
    refine Fw.gF (d := 31) rfl rfl rfl rfl ?_
    refine Fw.gF (d := 31) rfl rfl rfl rfl ?_
    refine Fw.gF (d := 31) rfl rfl rfl rfl ?_
    refine Fw.gF (d := 31) rfl rfl rfl rfl ?_
    refine Fw.gF (d := 31) rfl rfl rfl rfl ?_
    refine Fw.s (Fw.val_pickT rfl rfl) rfl ?_
    refine Fw.nil ?_
    refine hK5 _ _ (Fw.FC.sub (f' := [(40, _), (8, _), (7, _), (4, _), (0, _), (1, _)]) (.cons rfl (.cons rfl (.cons rfl (.cons rfl (.cons rfl (.cons rfl .nil)))))) ?_)
    refine Fw.condT rfl ?_
    refine Fw.seq fun _ hK7 => ?_
    refine Fw.region ?_
    refine Fw.s (Fw.val_build (ps := []) rfl (bu28_)) rfl ?_
    refine Fw.storeW sz28 rfl rfl HXr rfl rfl (by exact Fw.oneCells rfl) ?_
    intro w6 N_ hc
    replace HB := HB.trans (hc.below (B := w.heap.size) (fun k e => by omega) HB.size)
    clear hc
    clear HXr
    have HXr := N_
    clear N_
    refine Fw.s (Fw.val_assign rfl) rfl ?_
    refine Fw.s (Fw.val_assign rfl) rfl ?_
    refine Fw.nil ?_
    refine hK7 _ _ ?_
    refine Fw.ret ?_
    refine Fw.X_ret ?_
    refine Fw.ret_ [.cell 4 28, .tmp 5, .tmp 6] [_, _, _] Try.results40 (Fw.ResL.cellM rfl ag28 (Fw.rdBlk HXr) rfl (.tmp rfl (.tmp rfl .nil))) ?_
    have hf : Jr.first s b = none := Jr.first_no hrl
    obtain ⟨z1, z2, z3, z4⟩ := Jr.f_none hf
    rw [z1, z2, z4]
    exact ⟨none, 0, rfl, World.ownsRow_nil _ _ _ _, HB⟩
  · rintro he
    refine Fw.s (Fw.val_move rfl) rfl ?_
    obtain ⟨u, r, hd, hK, hV⟩ := Jr.rdK_ok he
    rw [hK] at HRb HRr hq1
    change Rd _ A5 (r.map (.int .u8)) at HRr
    change r.length ≤ c5 at hq1
    change Blk _ gXf 92 #[.slice A5 r.length c5, .int .i64 0] at HRb
    rw [hV]
    refine Fw.gT (d := 23) rfl rfl ?_
    refine Fw.s (Fw.val_move rfl) rfl ?_
    refine Fw.gT (d := 23) rfl rfl ?_
    refine Fw.s2 (Fw.val_bin rfl rfl Fw.b_lss) rfl ?_ ?_
    · rintro h0
      refine Fw.s (Fw.val_pickF rfl rfl) rfl ?_
      refine Fw.s (Fw.val_move rfl) rfl ?_
      refine Fw.gF (d := 27) rfl rfl rfl rfl ?_
      refine Fw.gF (d := 27) rfl rfl rfl rfl ?_
      refine Fw.s (Fw.val_pickT rfl rfl) rfl ?_
      refine Fw.s (Fw.val_move rfl) rfl ?_
      refine Fw.gF (d := 31) rfl rfl rfl rfl ?_
      refine Fw.gF (d := 31) rfl rfl rfl rfl ?_
      refine Fw.gF (d := 31) rfl rfl rfl rfl ?_
      refine Fw.gF (d := 31) rfl rfl rfl rfl ?_
      refine Fw.gF (d := 31) rfl rfl rfl rfl ?_
      refine Fw.gF (d := 31) rfl rfl rfl rfl ?_
      refine Fw.gF (d := 31) rfl rfl rfl rfl ?_
      refine Fw.gF (d := 31) rfl rfl rfl rfl ?_
      refine Fw.s (Fw.val_pickT rfl rfl) rfl ?_
      refine Fw.nil ?_
      refine hK5 _ _ (Fw.FC.sub (f' := [(40, _), (8, _), (7, _), (4, _), (0, _), (1, _)]) (.cons rfl (.cons rfl (.cons rfl (.cons rfl (.cons rfl (.cons rfl .nil)))))) ?_)
      refine Fw.condT rfl ?_
      refine Fw.seq fun _ hK9 => ?_
      refine Fw.region ?_
      refine Fw.s (Fw.val_build (ps := []) rfl (bu28_)) rfl ?_
      refine Fw.storeW sz28 rfl rfl HXr rfl rfl (by exact Fw.oneCells rfl) ?_
      intro w7 N_ hc
      replace HB := HB.trans (hc.below (B := w.heap.size) (fun k e => by omega) HB.size)
      clear hc
      clear HXr
      have HXr := N_
      clear N_
      refine Fw.s (Fw.val_assign rfl) rfl ?_
      refine Fw.s (Fw.val_assign rfl) rfl ?_
      refine Fw.nil ?_
      refine hK9 _ _ ?_
      refine Fw.ret ?_
      refine Fw.X_ret ?_
      refine Fw.ret_ [.cell 4 28, .tmp 5, .tmp 6] [_, _, _] Try.results40 (Fw.ResL.cellM rfl ag28 (Fw.rdBlk HXr) rfl (.tmp rfl (.tmp rfl .nil))) ?_
      have hf : Jr.first s b = none := Jr.first_no (Jr.rl_out hd (by omega))
      obtain ⟨z1, z2, z3, z4⟩ := Jr.f_none hf
      rw [z1, z2, z4]
      exact ⟨none, 0, rfl, World.ownsRow_nil _ _ _ _, HB⟩
    · rintro h0
      refine Fw.s (Fw.val_pickF rfl rfl) rfl ?_
      refine Fw.s (Fw.val_move rfl) rfl ?_
      refine Fw.gT (d := 27) rfl rfl ?_
      refine Fw.s (Fw.val_move rfl) rfl ?_
      refine Fw.gT (d := 27) rfl rfl ?_
      refine Fw.s2 (Fw.val_bin rfl rfl Fw.b_gtr) rfl ?_ ?_
      · rintro h8
        refine Fw.s (Fw.val_pickF rfl rfl) rfl ?_
        refine Fw.s (Fw.val_move rfl) rfl ?_
        refine Fw.gF (d := 31) rfl rfl rfl rfl ?_
        refine Fw.gF (d := 31) rfl rfl rfl rfl ?_
        refine Fw.gF (d := 31) rfl rfl rfl rfl ?_
        refine Fw.gF (d := 31) rfl rfl rfl rfl ?_
        refine Fw.gF (d := 31) rfl rfl rfl rfl ?_
        refine Fw.gF (d := 31) rfl rfl rfl rfl ?_
        refine Fw.gF (d := 31) rfl rfl rfl rfl ?_
        refine Fw.gF (d := 31) rfl rfl rfl rfl ?_
        refine Fw.s (Fw.val_pickT rfl rfl) rfl ?_
        refine Fw.nil ?_
        refine hK5 _ _ (Fw.FC.sub (f' := [(40, _), (8, _), (7, _), (4, _), (0, _), (1, _)]) (.cons rfl (.cons rfl (.cons rfl (.cons rfl (.cons rfl (.cons rfl .nil)))))) ?_)
        refine Fw.condT rfl ?_
        refine Fw.seq fun _ hK11 => ?_
        refine Fw.region ?_
        refine Fw.s (Fw.val_build (ps := []) rfl (bu28_)) rfl ?_
        refine Fw.storeW sz28 rfl rfl HXr rfl rfl (by exact Fw.oneCells rfl) ?_
        intro w8 N_ hc
        replace HB := HB.trans (hc.below (B := w.heap.size) (fun k e => by omega) HB.size)
        clear hc
        clear HXr
        have HXr := N_
        clear N_
        refine Fw.s (Fw.val_assign rfl) rfl ?_
        refine Fw.s (Fw.val_assign rfl) rfl ?_
        refine Fw.nil ?_
        refine hK11 _ _ ?_
        refine Fw.ret ?_
        refine Fw.X_ret ?_
        refine Fw.ret_ [.cell 4 28, .tmp 5, .tmp 6] [_, _, _] Try.results40 (Fw.ResL.cellM rfl ag28 (Fw.rdBlk HXr) rfl (.tmp rfl (.tmp rfl .nil))) ?_
        have hf : Jr.first s b = none := Jr.first_no (Jr.rl_out hd (by omega))
        obtain ⟨z1, z2, z3, z4⟩ := Jr.f_none hf
        rw [z1, z2, z4]
        exact ⟨none, 0, rfl, World.ownsRow_nil _ _ _ _, HB⟩
      · rintro h8
        refine Fw.s (Fw.val_pickF rfl rfl) rfl ?_
        refine Fw.s (Fw.val_move rfl) rfl ?_
        refine Fw.gT (d := 31) rfl rfl ?_
        refine Fw.s (Fw.val_move rfl) rfl ?_
        refine Fw.gT (d := 31) rfl rfl ?_
        refine Fw.s (Fw.val_nil rfl) rfl ?_
        refine Fw.gT (d := 31) rfl rfl ?_
        refine Fw.s (Fw.val_fieldAddr fl92_0 rfl rfl) rfl ?_
        refine Fw.gT (d := 31) rfl rfl ?_
        refine Fw.ld sc26 rfl (HRb.cell 0) rfl ?_
        refine Fw.gT (d := 31) rfl rfl ?_
        refine Fw.s (Fw.val_len Try.underlying26 rfl) rfl ?_
        refine Fw.gT (d := 31) rfl rfl ?_
        refine Fw.s (Fw.val_move rfl) rfl ?_
        refine Fw.gT (d := 31) rfl rfl ?_
        refine Fw.s (Fw.val_bin rfl rfl (Fw.b_add (Fw.i64_ok (by omega)))) rfl ?_
        refine Fw.gT (d := 31) rfl rfl ?_
        refine Fw.s2 (Fw.val_bin rfl rfl Fw.b_lss) rfl ?_ ?_
        · rintro hsh
          refine Fw.s (Fw.val_pickF rfl rfl) rfl ?_
          refine Fw.nil ?_
          refine hK5 _ _ (Fw.FC.sub (f' := [(40, _), (8, _), (7, _), (4, _), (0, _), (1, _)]) (.cons rfl (.cons rfl (.cons rfl (.cons rfl (.cons rfl (.cons rfl .nil)))))) ?_)
          refine Fw.condT rfl ?_
          refine Fw.seq fun _ hK13 => ?_
          refine Fw.region ?_
          refine Fw.s (Fw.val_build (ps := []) rfl (bu28_)) rfl ?_
          refine Fw.storeW sz28 rfl rfl HXr rfl rfl (by exact Fw.oneCells rfl) ?_
          intro w9 N_ hc
          replace HB := HB.trans (hc.below (B := w.heap.size) (fun k e => by omega) HB.size)
          clear hc
          clear HXr
          have HXr := N_
          clear N_
          refine Fw.s (Fw.val_assign rfl) rfl ?_
          refine Fw.s (Fw.val_assign rfl) rfl ?_
          refine Fw.nil ?_
          refine hK13 _ _ ?_
          refine Fw.ret ?_
          refine Fw.X_ret ?_
          refine Fw.ret_ [.cell 4 28, .tmp 5, .tmp 6] [_, _, _] Try.results40 (Fw.ResL.cellM rfl ag28 (Fw.rdBlk HXr) rfl (.tmp rfl (.tmp rfl .nil))) ?_
          have hf : Jr.first s b = none := Jr.first_lack hb hd (by omega) (by omega)
          obtain ⟨z1, z2, z3, z4⟩ := Jr.f_none hf
          rw [z1, z2, z4]
          exact ⟨none, 0, rfl, World.ownsRow_nil _ _ _ _, HB⟩
        · rintro hsh
          refine Fw.s (Fw.val_pickF rfl rfl) rfl ?_
          refine Fw.nil ?_
          refine hK5 _ _ (Fw.FC.sub (f' := [(40, _), (8, _), (7, _), (4, _), (0, _), (1, _)]) (.cons rfl (.cons rfl (.cons rfl (.cons rfl (.cons rfl (.cons rfl .nil)))))) ?_)
          refine Fw.condF rfl ?_
          refine Fw.skip ?_
          refine hK4 _ _ ?_
          refine Fw.seq fun _ hK14 => ?_
          obtain ⟨n, hn⟩ : ∃ n : Nat, Wr.unzz u = n := ⟨(Wr.unzz u).toNat, by omega⟩
          rw [hn]
          have hr0 : 0 < r.length := by omega
          obtain ⟨hx1, hx2, hx3, hx4, hx5⟩ := Jr.first_ref (s := s) hb hd hn (by omega) (by omega) _ rfl
          have hbdl : ((r.drop 1).take n).length = n := hx2
          obtain ⟨ad, b_, o_, hA, hadd, HE⟩ := Fw.rdAtM HRr 0 hr0
          have hpart := HRr.part c5 1 n hq1
          have hXr0 := HXr.lt
          have hRb0 := HRb.lt
          have hB0 := HB.size
          refine Fw.regionH (by kernel_rfl) ?_
          have R_HXr := HXr
          have R_HRb := HRb
          have R_HE := HE
          have R_HB := HB
          intro w10 hb
          have HS := hb
          replace HXr := HXr.low hb
          replace HRb := HRb.low hb
          replace HE := (hb.cell (World.block_lt_of_cell? _ _ HE)).trans HE
          replace HB := HB.trans (hb.mono HB.size)
          clear hb
          refine Fw.hTake 0 rfl rfl (by kernel_rfl) (by kernel_rfl) (by kernel_rfl) (Fw.yV (Fw.val_move rfl)) rfl ?_
          refine Fw.hTake 1 rfl rfl (by kernel_rfl) (by kernel_rfl) (by kernel_rfl) (Fw.yV (Fw.val_nil rfl)) rfl ?_
          refine Fw.hTake 2 rfl rfl (by kernel_rfl) (by kernel_rfl) (by kernel_rfl) (Fw.yV (Fw.val_fieldAddr fl92_0 rfl rfl)) rfl ?_
          refine Fw.hTake 3 rfl rfl (by kernel_rfl) (by kernel_rfl) (by kernel_rfl) (Fw.yV (Fw.hLd sc26 rfl (R_HRb.cell 0))) rfl ?_
          refine Fw.hTake 4 rfl rfl (by kernel_rfl) (by kernel_rfl) (by kernel_rfl) (Fw.yV (Fw.val_indexR Try.underlying26 sz5 rfl hA rfl rfl hr0 hadd)) rfl ?_
          refine Fw.hTake 5 rfl rfl (by kernel_rfl) (by kernel_rfl) (by kernel_rfl) (Fw.yV (Fw.hLd sc5 rfl (R_HE))) rfl ?_
          refine Fw.hTake 7 rfl rfl (by kernel_rfl) (by kernel_rfl) (by kernel_rfl) (Fw.yV (Fw.val_move rfl)) rfl ?_
          refine Fw.hTake 8 rfl rfl (by kernel_rfl) (by kernel_rfl) (by kernel_rfl) (Fw.yV (Fw.val_nil rfl)) rfl ?_
          refine Fw.hTake 9 rfl rfl (by kernel_rfl) (by kernel_rfl) (by kernel_rfl) (Fw.yV (Fw.val_fieldAddr fl92_0 rfl rfl)) rfl ?_
          refine Fw.hTake 10 rfl rfl (by kernel_rfl) (by kernel_rfl) (by kernel_rfl) (Fw.yV (Fw.hLd sc26 rfl (R_HRb.cell 0))) rfl ?_
          refine Fw.hTake 11 rfl rfl (by kernel_rfl) (by kernel_rfl) (by kernel_rfl) (Fw.yV (Fw.val_move rfl)) rfl ?_
          refine Fw.hTake 12 rfl rfl (by kernel_rfl) (by kernel_rfl) (by kernel_rfl) (Fw.yV (Fw.val_bin rfl rfl (Fw.b_add (Fw.i64_ok (by omega))))) rfl ?_
          refine Fw.hAll3 6 13 16 (by kernel_rfl) ?_ ?_ ?_
          · skip
            refine Fw.hOp 6 rfl ?_
            refine Fw.buildSlice [] sl26 rfl rfl (by exact Fw.allSz rfl) (by decide) rfl ?_
            intro w11 gS48 egS48 HS48 hb
            have rgS48 : w5.heap.size ≤ gS48 := by have := HS.size; omega
            have n_gXr_gS48 : gXr < gS48 := by have := HXr.lt; omega
            have n_gXf_gS48 : gXf < gS48 := by have := HRb.lt; omega
            have lgS48 : w.heap.size ≤ gS48 := by have := HB.size; omega
            replace HXr := HXr.low hb
            replace HRb := HRb.low hb
            replace HE := (hb.cell (World.block_lt_of_cell? _ _ HE)).trans HE
            replace HS := HS.trans (hb.mono HS.size)
            replace HB := HB.trans (hb.mono HB.size)
            clear hb
            clear egS48
            refine Fw.hNext HS ?_
            refine Fw.hAll2 13 16 (by kernel_rfl) ?_ ?_
            · skip
              refine Fw.hOp 13 rfl ?_
              refine Fw.s (Fw.val_sliceLH (l := 1) (h := 1 + n) (m := n) Try.underlying26 sz5 rfl rfl rfl rfl rfl (by omega) (by omega) (by omega)) rfl ?_
              refine Fw.hNext HS ?_
              refine Fw.hAll2 14 16 (by kernel_rfl) ?_ ?_
              · skip
                refine Fw.hOp 14 rfl ?_
                refine Fw.append (base := w5.heap.size) (((r.drop 1).take n)).length ((((r.drop 1).take n)).map (.int .u8)) slU8 rfl rfl (Fw.own_blk (n := 0) HS48 rgS48 (by decide) rfl) (hpart.low HS) (by rw [List.length_map, Nat.mul_one]; exact hbdl) oneCell_ints (⟨by unfold maxLen; omega, by omega⟩) HS.size (by rw [hbdl]; simp) rfl rfl ?_
                intro A56 c56 w12 N_ hbb hc _
                replace HXr := HXr.below hbb hXr0
                replace HRb := HRb.below hbb hRb0
                replace HS := HS.trans hbb
                replace HB := HB.trans (hbb.mono hB0)
                clear hbb hc
                have HO := own_base N_ hB0
                clear N_
                refine Fw.hNext HS ?_
                refine Fw.hTake 15 rfl rfl (by kernel_rfl) (by kernel_rfl) (by kernel_rfl) (Fw.yV (Fw.val_build (ps := [(0, _), (1, _)]) rfl (bu28_0_1 _ _ _ _))) rfl ?_
                refine Fw.hAll1 16 (by kernel_rfl) ?_
                refine Fw.hOp 16 rfl ?_
                refine Fw.alloc ze28 rfl ?_
                intro w13 gXx egXx HXx hb
                have rgXx : w5.heap.size ≤ gXx := by have := HS.size; omega
                have n_gXr_gXx : gXr < gXx := by have := HXr.lt; omega
                have n_gXf_gXx : gXf < gXx := by have := HRb.lt; omega
                have lgXx : w.heap.size ≤ gXx := by have := HB.size; omega
                replace HXr := HXr.low hb
                replace HRb := HRb.low hb
                replace HS := HS.trans (hb.mono HS.size)
                replace HO := own_below HO hb (Nat.le_refl _)
                replace HB := HB.trans (hb.mono HB.size)
                clear hb
                clear egXx
                refine Fw.hNext HS ?_
                refine Fw.hAll1 17 (by kernel_rfl) ?_
                refine Fw.hOp 17 rfl ?_
                refine Fw.storeW sz28 rfl rfl HXx rfl rfl (by exact Fw.oneCells rfl) ?_
                intro w14 N_ hc
                replace HXr := HXr.chg hc (by omega)
                replace HRb := HRb.chg hc (by omega)
                replace HS := HS.trans (hc.below (B := w5.heap.size) (fun k e => by omega) HS.size)
                replace HO := own_to HO hc (fun g_ h_ e_ => own_ne HO HXx (by decide) (by rw [h_, e_]))
                replace HB := HB.trans (hc.below (B := w.heap.size) (fun k e => by omega) HB.size)
                clear hc
                clear HXx
                have HXx := N_
                clear N_
                refine Fw.hNext HS ?_
                refine Fw.hDone (by kernel_rfl) ?_
                refine hK14 _ _ (Fw.FC.sub (f' := [(9, _), (4, _), (0, _), (1, _)]) (.cons rfl (.cons rfl (.cons rfl (.cons rfl .nil)))) ?_)
                refine Fw.seq fun _ hK16 => ?_
                refine Fw.region ?_
                refine Fw.s (Fw.val_move rfl) rfl ?_
                refine Fw.ldA ag28 rfl (Fw.rdBlk HXx) rfl rfl ?_
                refine Fw.call cf26 rfl rfl (jone_any _ s r[0] A56 ((r.drop 1).take n) c56 (Rd.of_own HO) (by omega) hs hx1.1 hx1.2) ?_
                rintro e_ w15 ⟨A60, c60, rfl, HP, hb⟩
                refine ⟨_, rfl, ?_⟩
                replace HXr := HXr.low hb
                replace HO := own_below HO hb (Nat.le_refl _)
                replace HXx := HXx.low hb
                replace HB := HB.trans (hb.mono HB.size)
                clear hb
                refine Fw.s (Fw.val_assign rfl) rfl ?_
                refine Fw.nil ?_
                refine hK16 _ _ ?_
                refine Fw.seq fun _ hK17 => ?_
                refine Fw.seq fun _ hK18 => ?_
                refine Fw.regionQ (by kernel_rfl) (by kernel_rfl) ?_
                refine Fw.q (Fw.val_move rfl) rfl ?_
                refine Fw.q (Fw.val_len Try.underlying26 rfl) rfl ?_
                refine Fw.q (Fw.val_move rfl) rfl ?_
                refine Fw.q (Fw.val_len Try.underlying26 rfl) rfl ?_
                refine Fw.q (Fw.Val.F (Fw.val_bin rfl rfl Fw.b_lss) (by omega)) rfl ?_
                refine Fw.q (Fw.val_move rfl) rfl ?_
                refine Fw.gTQ (d := 66) rfl rfl ?_
                refine Fw.q (Fw.val_move rfl) rfl ?_
                refine Fw.gTQ (d := 66) rfl rfl ?_
                refine Fw.q (Fw.val_move rfl) rfl ?_
                refine Fw.gTQ (d := 66) rfl rfl ?_
                refine Fw.q (Fw.val_len Try.underlying26 rfl) rfl ?_
                refine Fw.gTQ (d := 66) rfl rfl ?_
                refine Fw.q (Fw.val_sliceTo (m := (Jr.one s ⟨r[0], (r.drop 1).take n⟩).length) Try.underlying26 sz5 rfl rfl rfl (by omega)) rfl ?_
                refine Fw.gTQ (d := 66) rfl rfl ?_
                refine Fw.q (Fw.val_str (l := b.take (Jr.one s ⟨r[0], (r.drop 1).take n⟩).length) Try.underlying26 Try.underlying5 Try.underlying9 rfl (fun w_ hb_ => ((h.low HB).take _).low hb_) (by rw [List.length_take]; omega)) rfl ?_
                refine Fw.gTQ (d := 66) rfl rfl ?_
                refine Fw.q (Fw.val_move rfl) rfl ?_
                refine Fw.gTQ (d := 66) rfl rfl ?_
                refine Fw.q (Fw.val_str (l := (Jr.one s ⟨r[0], (r.drop 1).take n⟩)) Try.underlying26 Try.underlying5 Try.underlying9 rfl (fun w_ hb_ => (Rd.of_own HP).low hb_) rfl) rfl ?_
                refine Fw.gTQ (d := 66) rfl rfl ?_
                refine Fw.q2 (Fw.val_bin rfl rfl Fw.b_neqS) rfl ?_ ?_
                · rintro hne
                  refine Fw.q (Fw.val_pickF rfl rfl) rfl ?_
                  refine Fw.nilQ ?_
                  intro w16 hb
                  replace HXr := HXr.low hb
                  replace HO := own_below HO hb (Nat.le_refl _)
                  replace HXx := HXx.low hb
                  replace HP := own_below HP hb (Nat.le_refl _)
                  replace HB := HB.trans (hb.mono HB.size)
                  clear hb
                  refine hK18 _ _ (Fw.FC.sub (f' := [(75, _), (10, _), (9, _), (4, _)]) (.cons rfl (.cons rfl (.cons rfl (.cons rfl .nil)))) ?_)
                  refine Fw.condT rfl ?_
                  refine Fw.seq fun _ hK20 => ?_
                  refine Fw.region ?_
                  refine Fw.s (Fw.val_build (ps := []) rfl (bu28_)) rfl ?_
                  refine Fw.storeW sz28 rfl rfl HXr rfl rfl (by exact Fw.oneCells rfl) ?_
                  intro w17 N_ hc
                  replace HO := own_to HO hc (fun g_ h_ e_ => own_ne HO HXr (by decide) (by rw [h_, e_]))
                  replace HXx := HXx.chg hc (by omega)
                  replace HP := own_to HP hc (fun g_ h_ e_ => own_ne HP HXr (by decide) (by rw [h_, e_]))
                  replace HB := HB.trans (hc.below (B := w.heap.size) (fun k e => by omega) HB.size)
                  clear hc
                  clear HXr
                  have HXr := N_
                  clear N_
                  refine Fw.s (Fw.val_assign rfl) rfl ?_
                  refine Fw.s (Fw.val_assign rfl) rfl ?_
                  refine Fw.nil ?_
                  refine hK20 _ _ ?_
                  refine Fw.ret ?_
                  refine Fw.X_ret ?_
                  refine Fw.ret_ [.cell 4 28, .tmp 5, .tmp 6] [_, _, _] Try.results40 (Fw.ResL.cellM rfl ag28 (Fw.rdBlk HXr) rfl (.tmp rfl (.tmp rfl .nil))) ?_
                  have hf : Jr.first s b = none := hx5 (fun e_ => hne (by rw [e_]))
                  obtain ⟨z1, z2, z3, z4⟩ := Jr.f_none hf
                  rw [z1, z2, z4]
                  exact ⟨none, 0, rfl, World.ownsRow_nil _ _ _ _, HB⟩
                · rintro hne
                  refine Fw.q (Fw.val_pickF rfl rfl) rfl ?_
                  refine Fw.nilQ ?_
                  intro w18 hb
                  replace HXr := HXr.low hb
                  replace HO := own_below HO hb (Nat.le_refl _)
                  replace HXx := HXx.low hb
                  replace HP := own_below HP hb (Nat.le_refl _)
                  replace HB := HB.trans (hb.mono HB.size)
                  clear hb
                  refine hK18 _ _ (Fw.FC.sub (f' := [(75, _), (10, _), (9, _), (4, _)]) (.cons rfl (.cons rfl (.cons rfl (.cons rfl .nil)))) ?_)
                  refine Fw.condF rfl ?_
                  refine Fw.skip ?_
                  refine hK17 _ _ ?_
                  refine Fw.seq fun _ hK21 => ?_
                  refine Fw.region ?_
                  refine Fw.ldA ag28 rfl (Fw.rdBlk HXx) rfl rfl ?_
                  refine Fw.s (Fw.val_move rfl) rfl ?_
                  refine Fw.s (Fw.val_len Try.underlying26 rfl) rfl ?_
                  refine Fw.storeW sz28 rfl rfl HXr rfl rfl (by exact Fw.oneCells rfl) ?_
                  intro w19 N_ hc
                  replace HO := own_to HO hc (fun g_ h_ e_ => own_ne HO HXr (by decide) (by rw [h_, e_]))
                  replace HXx := HXx.chg hc (by omega)
                  replace HP := own_to HP hc (fun g_ h_ e_ => own_ne HP HXr (by decide) (by rw [h_, e_]))
                  replace HB := HB.trans (hc.below (B := w.heap.size) (fun k e => by omega) HB.size)
                  clear hc
                  clear HXr
                  have HXr := N_
                  clear N_
                  refine Fw.s (Fw.val_assign rfl) rfl ?_
                  refine Fw.s (Fw.val_assign rfl) rfl ?_
                  refine Fw.nil ?_
                  refine hK21 _ _ ?_
                  refine Fw.ret ?_
                  refine Fw.ret_ [.cell 4 28, .tmp 5, .tmp 6] [_, _, _] Try.results40 (Fw.ResL.cellM rfl ag28 (Fw.rdBlk HXr) rfl (.tmp rfl (.tmp rfl .nil))) ?_
                  have hf := hx4 (Jr.bstr_inj (fun x hx => hb x (List.mem_of_mem_take hx)) (Jr.one_bts _ hx1) (Classical.byContradiction hne))
                  obtain ⟨z1, z2, z3, z4⟩ := Jr.f_some hf
                  rw [z1, z2, z4]
                  exact ⟨_, _, rfl, HO, HB⟩
              · skip
                refine Fw.hOp 16 rfl ?_
                refine Fw.alloc ze28 rfl ?_
                intro w20 gXx egXx HXx hb
                have rgXx : w5.heap.size ≤ gXx := by have := HS.size; omega
                have n_gXr_gXx : gXr < gXx := by have := HXr.lt; omega
                have n_gXf_gXx : gXf < gXx := by have := HRb.lt; omega
                have n_gS48_gXx : gS48 < gXx := by have := HS48.lt; omega
                have lgXx : w.heap.size ≤ gXx := by have := HB.size; omega
                replace HXr := HXr.low hb
                replace HRb := HRb.low hb
                replace HE := (hb.cell (World.block_lt_of_cell? _ _ HE)).trans HE
                replace HS := HS.trans (hb.mono HS.size)
                replace HS48 := HS48.low hb
                replace HB := HB.trans (hb.mono HB.size)
                clear hb
                clear egXx
                refine Fw.hNext HS ?_
                refine Fw.hAll1 14 (by kernel_rfl) ?_
                refine Fw.hOp 14 rfl ?_
                refine Fw.append (base := w5.heap.size) (((r.drop 1).take n)).length ((((r.drop 1).take n)).map (.int .u8)) slU8 rfl rfl (Fw.own_blk (n := 0) HS48 rgS48 (by decide) rfl) (hpart.low HS) (by rw [List.length_map, Nat.mul_one]; exact hbdl) oneCell_ints (⟨by unfold maxLen; omega, by omega⟩) HS.size (by rw [hbdl]; simp) rfl rfl ?_
                intro A56 c56 w21 N_ hbb hc _
                replace HXr := HXr.below hbb hXr0
                replace HRb := HRb.below hbb hRb0
                replace HXx := HXx.chg hc (by simp [Value.ownBlock]; omega)
                replace HS := HS.trans hbb
                replace HB := HB.trans (hbb.mono hB0)
                clear hbb hc
                have HO := own_base N_ hB0
                clear N_
                refine Fw.hNext HS ?_
                refine Fw.hTake 15 rfl rfl (by kernel_rfl) (by kernel_rfl) (by kernel_rfl) (Fw.yV (Fw.val_build (ps := [(0, _), (1, _)]) rfl (bu28_0_1 _ _ _ _))) rfl ?_
                refine Fw.hAll1 17 (by kernel_rfl) ?_
                refine Fw.hOp 17 rfl ?_
                refine Fw.storeW sz28 rfl rfl HXx rfl rfl (by exact Fw.oneCells rfl) ?_
                intro w22 N_ hc
                replace HXr := HXr.chg hc (by omega)
                replace HRb := HRb.chg hc (by omega)
                replace HS := HS.trans (hc.below (B := w5.heap.size) (fun k e => by omega) HS.size)
                replace HO := own_to HO hc (fun g_ h_ e_ => own_ne HO HXx (by decide) (by rw [h_, e_]))
                replace HB := HB.trans (hc.below (B := w.heap.size) (fun k e => by omega) HB.size)
                clear hc
                clear HXx
                have HXx := N_
                clear N_
                refine Fw.hNext HS ?_
                refine Fw.hDone (by kernel_rfl) ?_
                refine hK14 _ _ (Fw.FC.sub (f' := [(9, _), (4, _), (0, _), (1, _)]) (.cons rfl (.cons rfl (.cons rfl (.cons rfl .nil)))) ?_)
                refine Fw.seq fun _ hK22 => ?_
                refine Fw.region ?_
                refine Fw.s (Fw.val_move rfl) rfl ?_
                refine Fw.ldA ag28 rfl (Fw.rdBlk HXx) rfl rfl ?_
                refine Fw.call cf26 rfl rfl (jone_any _ s r[0] A56 ((r.drop 1).take n) c56 (Rd.of_own HO) (by omega) hs hx1.1 hx1.2) ?_
                rintro e_ w23 ⟨A60, c60, rfl, HP, hb⟩
                refine ⟨_, rfl, ?_⟩
                replace HXr := HXr.low hb
                replace HXx := HXx.low hb
                replace HO := own_below HO hb (Nat.le_refl _)
                replace HB := HB.trans (hb.mono HB.size)
                clear hb
                refine Fw.s (Fw.val_assign rfl) rfl ?_
                refine Fw.nil ?_
                refine hK22 _ _ ?_
                refine Fw.seq fun _ hK23 => ?_
                refine Fw.seq fun _ hK24 => ?_
                refine Fw.regionQ (by kernel_rfl) (by kernel_rfl) ?_
                refine Fw.q (Fw.val_move rfl) rfl ?_
                refine Fw.q (Fw.val_len Try.underlying26 rfl) rfl ?_
                refine Fw.q (Fw.val_move rfl) rfl ?_
                refine Fw.q (Fw.val_len Try.underlying26 rfl) rfl ?_
                refine Fw.q (Fw.Val.F (Fw.val_bin rfl rfl Fw.b_lss) (by omega)) rfl ?_
                refine Fw.q (Fw.val_move rfl) rfl ?_
                refine Fw.gTQ (d := 66) rfl rfl ?_
                refine Fw.q (Fw.val_move rfl) rfl ?_
                refine Fw.gTQ (d := 66) rfl rfl ?_
                refine Fw.q (Fw.val_move rfl) rfl ?_
                refine Fw.gTQ (d := 66) rfl rfl ?_
                refine Fw.q (Fw.val_len Try.underlying26 rfl) rfl ?_
                refine Fw.gTQ (d := 66) rfl rfl ?_
                refine Fw.q (Fw.val_sliceTo (m := (Jr.one s ⟨r[0], (r.drop 1).take n⟩).length) Try.underlying26 sz5 rfl rfl rfl (by omega)) rfl ?_
                refine Fw.gTQ (d := 66) rfl rfl ?_
                refine Fw.q (Fw.val_str (l := b.take (Jr.one s ⟨r[0], (r.drop 1).take n⟩).length) Try.underlying26 Try.underlying5 Try.underlying9 rfl (fun w_ hb_ => ((h.low HB).take _).low hb_) (by rw [List.length_take]; omega)) rfl ?_
                refine Fw.gTQ (d := 66) rfl rfl ?_
                refine Fw.q (Fw.val_move rfl) rfl ?_
                refine Fw.gTQ (d := 66) rfl rfl ?_
                refine Fw.q (Fw.val_str (l := (Jr.one s ⟨r[0], (r.drop 1).take n⟩)) Try.underlying26 Try.underlying5 Try.underlying9 rfl (fun w_ hb_ => (Rd.of_own HP).low hb_) rfl) rfl ?_
                refine Fw.gTQ (d := 66) rfl rfl ?_
                refine Fw.q2 (Fw.val_bin rfl rfl Fw.b_neqS) rfl ?_ ?_
                · rintro hne
                  refine Fw.q (Fw.val_pickF rfl rfl) rfl ?_
                  refine Fw.nilQ ?_
                  intro w24 hb
                  replace HXr := HXr.low hb
                  replace HXx := HXx.low hb
                  replace HO := own_below HO hb (Nat.le_refl _)
                  replace HP := own_below HP hb (Nat.le_refl _)
                  replace HB := HB.trans (hb.mono HB.size)
                  clear hb
                  refine hK24 _ _ (Fw.FC.sub (f' := [(75, _), (10, _), (9, _), (4, _)]) (.cons rfl (.cons rfl (.cons rfl (.cons rfl .nil)))) ?_)
                  refine Fw.condT rfl ?_
                  refine Fw.seq fun _ hK26 => ?_
                  refine Fw.region ?_
                  refine Fw.s (Fw.val_build (ps := []) rfl (bu28_)) rfl ?_
                  refine Fw.storeW sz28 rfl rfl HXr rfl rfl (by exact Fw.oneCells rfl) ?_
                  intro w25 N_ hc
                  replace HXx := HXx.chg hc (by omega)
                  replace HO := own_to HO hc (fun g_ h_ e_ => own_ne HO HXr (by decide) (by rw [h_, e_]))
                  replace HP := own_to HP hc (fun g_ h_ e_ => own_ne HP HXr (by decide) (by rw [h_, e_]))
                  replace HB := HB.trans (hc.below (B := w.heap.size) (fun k e => by omega) HB.size)
                  clear hc
                  clear HXr
                  have HXr := N_
                  clear N_
                  refine Fw.s (Fw.val_assign rfl) rfl ?_
                  refine Fw.s (Fw.val_assign rfl) rfl ?_
                  refine Fw.nil ?_
                  refine hK26 _ _ ?_
                  refine Fw.ret ?_
                  refine Fw.X_ret ?_
                  refine Fw.ret_ [.cell 4 28, .tmp 5, .tmp 6] [_, _, _] Try.results40 (Fw.ResL.cellM rfl ag28 (Fw.rdBlk HXr) rfl (.tmp rfl (.tmp rfl .nil))) ?_
                  have hf : Jr.first s b = none := hx5 (fun e_ => hne (by rw [e_]))
                  obtain ⟨z1, z2, z3, z4⟩ := Jr.f_none hf
                  rw [z1, z2, z4]
                  exact ⟨none, 0, rfl, World.ownsRow_nil _ _ _ _, HB⟩
                · rintro hne
                  refine Fw.q (Fw.val_pickF rfl rfl) rfl ?_
                  refine Fw.nilQ ?_
                  intro w26 hb
                  replace HXr := HXr.low hb
                  replace HXx := HXx.low hb
                  replace HO := own_below HO hb (Nat.le_refl _)
                  replace HP := own_below HP hb (Nat.le_refl _)
                  replace HB := HB.trans (hb.mono HB.size)
                  clear hb
                  refine hK24 _ _ (Fw.FC.sub (f' := [(75, _), (10, _), (9, _), (4, _)]) (.cons rfl (.cons rfl (.cons rfl (.cons rfl .nil)))) ?_)
                  refine Fw.condF rfl ?_
                  refine Fw.skip ?_
                  refine hK23 _ _ ?_
                  refine Fw.seq fun _ hK27 => ?_
                  refine Fw.region ?_
                  refine Fw.ldA ag28 rfl (Fw.rdBlk HXx) rfl rfl ?_
                  refine Fw.s (Fw.val_move rfl) rfl ?_
                  refine Fw.s (Fw.val_len Try.underlying26 rfl) rfl ?_
                  refine Fw.storeW sz28 rfl rfl HXr rfl rfl (by exact Fw.oneCells rfl) ?_
                  intro w27 N_ hc
                  replace HXx := HXx.chg hc (by omega)
                  replace HO := own_to HO hc (fun g_ h_ e_ => own_ne HO HXr (by decide) (by rw [h_, e_]))
                  replace HP := own_to HP hc (fun g_ h_ e_ => own_ne HP HXr (by decide) (by rw [h_, e_]))
                  replace HB := HB.trans (hc.below (B := w.heap.size) (fun k e => by omega) HB.size)
                  clear hc
                  clear HXr
                  have HXr := N_
                  clear N_
                  refine Fw.s (Fw.val_assign rfl) rfl ?_
                  refine Fw.s (Fw.val_assign rfl) rfl ?_
                  refine Fw.nil ?_
                  refine hK27 _ _ ?_
                  refine Fw.ret ?_
                  refine Fw.ret_ [.cell 4 28, .tmp 5, .tmp 6] [_, _, _] Try.results40 (Fw.ResL.cellM rfl ag28 (Fw.rdBlk HXr) rfl (.tmp rfl (.tmp rfl .nil))) ?_
                  have hf := hx4 (Jr.bstr_inj (fun x hx => hb x (List.mem_of_mem_take hx)) (Jr.one_bts _ hx1) (Classical.byContradiction hne))
                  obtain ⟨z1, z2, z3, z4⟩ := Jr.f_some hf
                  rw [z1, z2, z4]
                  exact ⟨_, _, rfl, HO, HB⟩
            · skip
              refine Fw.hOp 16 rfl ?_
              refine Fw.alloc ze28 rfl ?_
              intro w28 gXx egXx HXx hb
              have rgXx : w5.heap.size ≤ gXx := by have := HS.size; omega
              have n_gXr_gXx : gXr < gXx := by have := HXr.lt; omega
              have n_gXf_gXx : gXf < gXx := by have := HRb.lt; omega
              have n_gS48_gXx : gS48 < gXx := by have := HS48.lt; omega
              have lgXx : w.heap.size ≤ gXx := by have := HB.size; omega
              replace HXr := HXr.low hb
              replace HRb := HRb.low hb
              replace HE := (hb.cell (World.block_lt_of_cell? _ _ HE)).trans HE
              replace HS := HS.trans (hb.mono HS.size)
              replace HS48 := HS48.low hb
              replace HB := HB.trans (hb.mono HB.size)
              clear hb
              clear egXx
              refine Fw.hNext HS ?_
              refine Fw.hAll1 13 (by kernel_rfl) ?_
              refine Fw.hOp 13 rfl ?_
              refine Fw.s (Fw.val_sliceLH (l := 1) (h := 1 + n) (m := n) Try.underlying26 sz5 rfl rfl rfl rfl rfl (by omega) (by omega) (by omega)) rfl ?_
              refine Fw.hNext HS ?_
              refine Fw.hAll1 14 (by kernel_rfl) ?_
              refine Fw.hOp 14 rfl ?_
              refine Fw.append (base := w5.heap.size) (((r.drop 1).take n)).length ((((r.drop 1).take n)).map (.int .u8)) slU8 rfl rfl (Fw.own_blk (n := 0) HS48 rgS48 (by decide) rfl) (hpart.low HS) (by rw [List.length_map, Nat.mul_one]; exact hbdl) oneCell_ints (⟨by unfold maxLen; omega, by omega⟩) HS.size (by rw [hbdl]; simp) rfl rfl ?_
              intro A56 c56 w29 N_ hbb hc _
              replace HXr := HXr.below hbb hXr0
              replace HRb := HRb.below hbb hRb0
              replace HXx := HXx.chg hc (by simp [Value.ownBlock]; omega)
              replace HS := HS.trans hbb
              replace HB := HB.trans (hbb.mono hB0)
              clear hbb hc
              have HO := own_base N_ hB0
              clear N_
              refine Fw.hNext HS ?_
              refine Fw.hTake 15 rfl rfl (by kernel_rfl) (by kernel_rfl) (by kernel_rfl) (Fw.yV (Fw.val_build (ps := [(0, _), (1, _)]) rfl (bu28_0_1 _ _ _ _))) rfl ?_
              refine Fw.hAll1 17 (by kernel_rfl) ?_
              refine Fw.hOp 17 rfl ?_
              refine Fw.storeW sz28 rfl rfl HXx rfl rfl (by exact Fw.oneCells rfl) ?_
              intro w30 N_ hc
              replace HXr := HXr.chg hc (by omega)
              replace HRb := HRb.chg hc (by omega)
              replace HS := HS.trans (hc.below (B := w5.heap.size) (fun k e => by omega) HS.size)
              replace HO := own_to HO hc (fun g_ h_ e_ => own_ne HO HXx (by decide) (by rw [h_, e_]))
              replace HB := HB.trans (hc.below (B := w.heap.size) (fun k e => by omega) HB.size)
              clear hc
              clear HXx
              have HXx := N_
              clear N_
              refine Fw.hNext HS ?_
              refine Fw.hDone (by kernel_rfl) ?_
              refine hK14 _ _ (Fw.FC.sub (f' := [(9, _), (4, _), (0, _), (1, _)]) (.cons rfl (.cons rfl (.cons rfl (.cons rfl .nil)))) ?_)
              refine Fw.seq fun _ hK28 => ?_
              refine Fw.region ?_
              refine Fw.s (Fw.val_move rfl) rfl ?_
              refine Fw.ldA ag28 rfl (Fw.rdBlk HXx) rfl rfl ?_
              refine Fw.call cf26 rfl rfl (jone_any _ s r[0] A56 ((r.drop 1).take n) c56 (Rd.of_own HO) (by omega) hs hx1.1 hx1.2) ?_
              rintro e_ w31 ⟨A60, c60, rfl, HP, hb⟩
              refine ⟨_, rfl, ?_⟩
              replace HXr := HXr.low hb
              replace HXx := HXx.low hb
              replace HO := own_below HO hb (Nat.le_refl _)
              replace HB := HB.trans (hb.mono HB.size)
              clear hb
              refine Fw.s (Fw.val_assign rfl) rfl ?_
              refine Fw.nil ?_
              refine hK28 _ _ ?_
              refine Fw.seq fun _ hK29 => ?_
              refine Fw.seq fun _ hK30 => ?_
              refine Fw.regionQ (by kernel_rfl) (by kernel_rfl) ?_
              refine Fw.q (Fw.val_move rfl) rfl ?_
              refine Fw.q (Fw.val_len Try.underlying26 rfl) rfl ?_
              refine Fw.q (Fw.val_move rfl) rfl ?_
              refine Fw.q (Fw.val_len Try.underlying26 rfl) rfl ?_
              refine Fw.q (Fw.Val.F (Fw.val_bin rfl rfl Fw.b_lss) (by omega)) rfl ?_
              refine Fw.q (Fw.val_move rfl) rfl ?_
              refine Fw.gTQ (d := 66) rfl rfl ?_
              refine Fw.q (Fw.val_move rfl) rfl ?_
              refine Fw.gTQ (d := 66) rfl rfl ?_
              refine Fw.q (Fw.val_move rfl) rfl ?_
              refine Fw.gTQ (d := 66) rfl rfl ?_
              refine Fw.q (Fw.val_len Try.underlying26 rfl) rfl ?_
              refine Fw.gTQ (d := 66) rfl rfl ?_
              refine Fw.q (Fw.val_sliceTo (m := (Jr.one s ⟨r[0], (r.drop 1).take n⟩).length) Try.underlying26 sz5 rfl rfl rfl (by omega)) rfl ?_
              refine Fw.gTQ (d := 66) rfl rfl ?_
              refine Fw.q (Fw.val_str (l := b.take (Jr.one s ⟨r[0], (r.drop 1).take n⟩).length) Try.underlying26 Try.underlying5 Try.underlying9 rfl (fun w_ hb_ => ((h.low HB).take _).low hb_) (by rw [List.length_take]; omega)) rfl ?_
              refine Fw.gTQ (d := 66) rfl rfl ?_
              refine Fw.q (Fw.val_move rfl) rfl ?_
              refine Fw.gTQ (d := 66) rfl rfl ?_
              refine Fw.q (Fw.val_str (l := (Jr.one s ⟨r[0], (r.drop 1).take n⟩)) Try.underlying26 Try.underlying5 Try.underlying9 rfl (fun w_ hb_ => (Rd.of_own HP).low hb_) rfl) rfl ?_
              refine Fw.gTQ (d := 66) rfl rfl ?_
              refine Fw.q2 (Fw.val_bin rfl rfl Fw.b_neqS) rfl ?_ ?_
              · rintro hne
                refine Fw.q (Fw.val_pickF rfl rfl) rfl ?_
                refine Fw.nilQ ?_
                intro w32 hb
                replace HXr := HXr.low hb
                replace HXx := HXx.low hb
                replace HO := own_below HO hb (Nat.le_refl _)
                replace HP := own_below HP hb (Nat.le_refl _)
                replace HB := HB.trans (hb.mono HB.size)
                clear hb
                refine hK30 _ _ (Fw.FC.sub (f' := [(75, _), (10, _), (9, _), (4, _)]) (.cons rfl (.cons rfl (.cons rfl (.cons rfl .nil)))) ?_)
                refine Fw.condT rfl ?_
                refine Fw.seq fun _ hK32 => ?_
                refine Fw.region ?_
                refine Fw.s (Fw.val_build (ps := []) rfl (bu28_)) rfl ?_
                refine Fw.storeW sz28 rfl rfl HXr rfl rfl (by exact Fw.oneCells rfl) ?_
                intro w33 N_ hc
                replace HXx := HXx.chg hc (by omega)
                replace HO := own_to HO hc (fun g_ h_ e_ => own_ne HO HXr (by decide) (by rw [h_, e_]))
                replace HP := own_to HP hc (fun g_ h_ e_ => own_ne HP HXr (by decide) (by rw [h_, e_]))
                replace HB := HB.trans (hc.below (B := w.heap.size) (fun k e => by omega) HB.size)
                clear hc
                clear HXr
                have HXr := N_
                clear N_
                refine Fw.s (Fw.val_assign rfl) rfl ?_
                refine Fw.s (Fw.val_assign rfl) rfl ?_
                refine Fw.nil ?_
                refine hK32 _ _ ?_
                refine Fw.ret ?_
                refine Fw.X_ret ?_
                refine Fw.ret_ [.cell 4 28, .tmp 5, .tmp 6] [_, _, _] Try.results40 (Fw.ResL.cellM rfl ag28 (Fw.rdBlk HXr) rfl (.tmp rfl (.tmp rfl .nil))) ?_
                have hf : Jr.first s b = none := hx5 (fun e_ => hne (by rw [e_]))
                obtain ⟨z1, z2, z3, z4⟩ := Jr.f_none hf
                rw [z1, z2, z4]
                exact ⟨none, 0, rfl, World.ownsRow_nil _ _ _ _, HB⟩
              · rintro hne
                refine Fw.q (Fw.val_pickF rfl rfl) rfl ?_
                refine Fw.nilQ ?_
                intro w34 hb
                replace HXr := HXr.low hb
                replace HXx := HXx.low hb
                replace HO := own_below HO hb (Nat.le_refl _)
                replace HP := own_below HP hb (Nat.le_refl _)
                replace HB := HB.trans (hb.mono HB.size)
                clear hb
                refine hK30 _ _ (Fw.FC.sub (f' := [(75, _), (10, _), (9, _), (4, _)]) (.cons rfl (.cons rfl (.cons rfl (.cons rfl .nil)))) ?_)
                refine Fw.condF rfl ?_
                refine Fw.skip ?_
                refine hK29 _ _ ?_
                refine Fw.seq fun _ hK33 => ?_
                refine Fw.region ?_
                refine Fw.ldA ag28 rfl (Fw.rdBlk HXx) rfl rfl ?_
                refine Fw.s (Fw.val_move rfl) rfl ?_
                refine Fw.s (Fw.val_len Try.underlying26 rfl) rfl ?_
                refine Fw.storeW sz28 rfl rfl HXr rfl rfl (by exact Fw.oneCells rfl) ?_
                intro w35 N_ hc
                replace HXx := HXx.chg hc (by omega)
                replace HO := own_to HO hc (fun g_ h_ e_ => own_ne HO HXr (by decide) (by rw [h_, e_]))
                replace HP := own_to HP hc (fun g_ h_ e_ => own_ne HP HXr (by decide) (by rw [h_, e_]))
                replace HB := HB.trans (hc.below (B := w.heap.size) (fun k e => by omega) HB.size)
                clear hc
                clear HXr
                have HXr := N_
                clear N_
                refine Fw.s (Fw.val_assign rfl) rfl ?_
                refine Fw.s (Fw.val_assign rfl) rfl ?_
                refine Fw.nil ?_
                refine hK33 _ _ ?_
                refine Fw.ret ?_
                refine Fw.ret_ [.cell 4 28, .tmp 5, .tmp 6] [_, _, _] Try.results40 (Fw.ResL.cellM rfl ag28 (Fw.rdBlk HXr) rfl (.tmp rfl (.tmp rfl .nil))) ?_
                have hf := hx4 (Jr.bstr_inj (fun x hx => hb x (List.mem_of_mem_take hx)) (Jr.one_bts _ hx1) (Classical.byContradiction hne))
                obtain ⟨z1, z2, z3, z4⟩ := Jr.f_some hf
                rw [z1, z2, z4]
                exact ⟨_, _, rfl, HO, HB⟩
          · skip
            refine Fw.hOp 13 rfl ?_
            refine Fw.s (Fw.val_sliceLH (l := 1) (h := 1 + n) (m := n) Try.underlying26 sz5 rfl rfl rfl rfl rfl (by omega) (by omega) (by omega)) rfl ?_
            refine Fw.hNext HS ?_
            refine Fw.hAll2 6 16 (by kernel_rfl) ?_ ?_
            · skip
              refine Fw.hOp 6 rfl ?_
              refine Fw.buildSlice [] sl26 rfl rfl (by exact Fw.allSz rfl) (by decide) rfl ?_
              intro w36 gS48 egS48 HS48 hb
              have rgS48 : w5.heap.size ≤ gS48 := by have := HS.size; omega
              have n_gXr_gS48 : gXr < gS48 := by have := HXr.lt; omega
              have n_gXf_gS48 : gXf < gS48 := by have := HRb.lt; omega
              have lgS48 : w.heap.size ≤ gS48 := by have := HB.size; omega
              replace HXr := HXr.low hb
              replace HRb := HRb.low hb
              replace HE := (hb.cell (World.block_lt_of_cell? _ _ HE)).trans HE
              replace HS := HS.trans (hb.mono HS.size)
              replace HB := HB.trans (hb.mono HB.size)
              clear hb
              clear egS48
              refine Fw.hNext HS ?_
              refine Fw.hAll2 14 16 (by kernel_rfl) ?_ ?_
              · skip
                refine Fw.hOp 14 rfl ?_
                refine Fw.append (base := w5.heap.size) (((r.drop 1).take n)).length ((((r.drop 1).take n)).map (.int .u8)) slU8 rfl rfl (Fw.own_blk (n := 0) HS48 rgS48 (by decide) rfl) (hpart.low HS) (by rw [List.length_map, Nat.mul_one]; exact hbdl) oneCell_ints (⟨by unfold maxLen; omega, by omega⟩) HS.size (by rw [hbdl]; simp) rfl rfl ?_
                intro A56 c56 w37 N_ hbb hc _
                replace HXr := HXr.below hbb hXr0
                replace HRb := HRb.below hbb hRb0
                replace HS := HS.trans hbb
                replace HB := HB.trans (hbb.mono hB0)
                clear hbb hc
                have HO := own_base N_ hB0
                clear N_
                refine Fw.hNext HS ?_
                refine Fw.hTake 15 rfl rfl (by kernel_rfl) (by kernel_rfl) (by kernel_rfl) (Fw.yV (Fw.val_build (ps := [(0, _), (1, _)]) rfl (bu28_0_1 _ _ _ _))) rfl ?_
                refine Fw.hAll1 16 (by kernel_rfl) ?_
                refine Fw.hOp 16 rfl ?_
                refine Fw.alloc ze28 rfl ?_
                intro w38 gXx egXx HXx hb
                have rgXx : w5.heap.size ≤ gXx := by have := HS.size; omega
                have n_gXr_gXx : gXr < gXx := by have := HXr.lt; omega
                have n_gXf_gXx : gXf < gXx := by have := HRb.lt; omega
                have lgXx : w.heap.size ≤ gXx := by have := HB.size; omega
                replace HXr := HXr.low hb
                replace HRb := HRb.low hb
                replace HS := HS.trans (hb.mono HS.size)
                replace HO := own_below HO hb (Nat.le_refl _)
                replace HB := HB.trans (hb.mono HB.size)
                clear hb
                clear egXx
                refine Fw.hNext HS ?_
                refine Fw.hAll1 17 (by kernel_rfl) ?_
                refine Fw.hOp 17 rfl ?_
                refine Fw.storeW sz28 rfl rfl HXx rfl rfl (by exact Fw.oneCells rfl) ?_
                intro w39 N_ hc
                replace HXr := HXr.chg hc (by omega)
                replace HRb := HRb.chg hc (by omega)
                replace HS := HS.trans (hc.below (B := w5.heap.size) (fun k e => by omega) HS.size)
                replace HO := own_to HO hc (fun g_ h_ e_ => own_ne HO HXx (by decide) (by rw [h_, e_]))
                replace HB := HB.trans (hc.below (B := w.heap.size) (fun k e => by omega) HB.size)
                clear hc
                clear HXx
                have HXx := N_
                clear N_
                refine Fw.hNext HS ?_
                refine Fw.hDone (by kernel_rfl) ?_
                refine hK14 _ _ (Fw.FC.sub (f' := [(9, _), (4, _), (0, _), (1, _)]) (.cons rfl (.cons rfl (.cons rfl (.cons rfl .nil)))) ?_)
                refine Fw.seq fun _ hK34 => ?_
                refine Fw.region ?_
                refine Fw.s (Fw.val_move rfl) rfl ?_
                refine Fw.ldA ag28 rfl (Fw.rdBlk HXx) rfl rfl ?_
                refine Fw.call cf26 rfl rfl (jone_any _ s r[0] A56 ((r.drop 1).take n) c56 (Rd.of_own HO) (by omega) hs hx1.1 hx1.2) ?_
                rintro e_ w40 ⟨A60, c60, rfl, HP, hb⟩
                refine ⟨_, rfl, ?_⟩
                replace HXr := HXr.low hb
                replace HO := own_below HO hb (Nat.le_refl _)
                replace HXx := HXx.low hb
                replace HB := HB.trans (hb.mono HB.size)
                clear hb
                refine Fw.s (Fw.val_assign rfl) rfl ?_
                refine Fw.nil ?_
                refine hK34 _ _ ?_
                refine Fw.seq fun _ hK35 => ?_
                refine Fw.seq fun _ hK36 => ?_
                refine Fw.regionQ (by kernel_rfl) (by kernel_rfl) ?_
                refine Fw.q (Fw.val_move rfl) rfl ?_
                refine Fw.q (Fw.val_len Try.underlying26 rfl) rfl ?_
                refine Fw.q (Fw.val_move rfl) rfl ?_
                refine Fw.q (Fw.val_len Try.underlying26 rfl) rfl ?_
                refine Fw.q (Fw.Val.F (Fw.val_bin rfl rfl Fw.b_lss) (by omega)) rfl ?_
                refine Fw.q (Fw.val_move rfl) rfl ?_
                refine Fw.gTQ (d := 66) rfl rfl ?_
                refine Fw.q (Fw.val_move rfl) rfl ?_
                refine Fw.gTQ (d := 66) rfl rfl ?_
                refine Fw.q (Fw.val_move rfl) rfl ?_
                refine Fw.gTQ (d := 66) rfl rfl ?_
                refine Fw.q (Fw.val_len Try.underlying26 rfl) rfl ?_
                refine Fw.gTQ (d := 66) rfl rfl ?_
                refine Fw.q (Fw.val_sliceTo (m := (Jr.one s ⟨r[0], (r.drop 1).take n⟩).length) Try.underlying26 sz5 rfl rfl rfl (by omega)) rfl ?_
                refine Fw.gTQ (d := 66) rfl rfl ?_
                refine Fw.q (Fw.val_str (l := b.take (Jr.one s ⟨r[0], (r.drop 1).take n⟩).length) Try.underlying26 Try.underlying5 Try.underlying9 rfl (fun w_ hb_ => ((h.low HB).take _).low hb_) (by rw [List.length_take]; omega)) rfl ?_
                refine Fw.gTQ (d := 66) rfl rfl ?_
                refine Fw.q (Fw.val_move rfl) rfl ?_
                refine Fw.gTQ (d := 66) rfl rfl ?_
                refine Fw.q (Fw.val_str (l := (Jr.one s ⟨r[0], (r.drop 1).take n⟩)) Try.underlying26 Try.underlying5 Try.underlying9 rfl (fun w_ hb_ => (Rd.of_own HP).low hb_) rfl) rfl ?_
                refine Fw.gTQ (d := 66) rfl rfl ?_
                refine Fw.q2 (Fw.val_bin rfl rfl Fw.b_neqS) rfl ?_ ?_
                · rintro hne
                  refine Fw.q (Fw.val_pickF rfl rfl) rfl ?_
                  refine Fw.nilQ ?_
                  intro w41 hb
                  replace HXr := HXr.low hb
                  replace HO := own_below HO hb (Nat.le_refl _)
                  replace HXx := HXx.low hb
                  replace HP := own_below HP hb (Nat.le_refl _)
                  replace HB := HB.trans (hb.mono HB.size)
                  clear hb
                  refine hK36 _ _ (Fw.FC.sub (f' := [(75, _), (10, _), (9, _), (4, _)]) (.cons rfl (.cons rfl (.cons rfl (.cons rfl .nil)))) ?_)
                  refine Fw.condT rfl ?_
                  refine Fw.seq fun _ hK38 => ?_
                  refine Fw.region ?_
                  refine Fw.s (Fw.val_build (ps := []) rfl (bu28_)) rfl ?_
                  refine Fw.storeW sz28 rfl rfl HXr rfl rfl (by exact Fw.oneCells rfl) ?_
                  intro w42 N_ hc
                  replace HO := own_to HO hc (fun g_ h_ e_ => own_ne HO HXr (by decide) (by rw [h_, e_]))
                  replace HXx := HXx.chg hc (by omega)
                  replace HP := own_to HP hc (fun g_ h_ e_ => own_ne HP HXr (by decide) (by rw [h_, e_]))
                  replace HB := HB.trans (hc.below (B := w.heap.size) (fun k e => by omega) HB.size)
                  clear hc
                  clear HXr
                  have HXr := N_
                  clear N_
                  refine Fw.s (Fw.val_assign rfl) rfl ?_
                  refine Fw.s (Fw.val_assign rfl) rfl ?_
                  refine Fw.nil ?_
                  refine hK38 _ _ ?_
                  refine Fw.ret ?_
                  refine Fw.X_ret ?_
                  refine Fw.ret_ [.cell 4 28, .tmp 5, .tmp 6] [_, _, _] Try.results40 (Fw.ResL.cellM rfl ag28 (Fw.rdBlk HXr) rfl (.tmp rfl (.tmp rfl .nil))) ?_
                  have hf : Jr.first s b = none := hx5 (fun e_ => hne (by rw [e_]))
                  obtain ⟨z1, z2, z3, z4⟩ := Jr.f_none hf
                  rw [z1, z2, z4]
                  exact ⟨none, 0, rfl, World.ownsRow_nil _ _ _ _, HB⟩
                · rintro hne
                  refine Fw.q (Fw.val_pickF rfl rfl) rfl ?_
                  refine Fw.nilQ ?_
                  intro w43 hb
                  replace HXr := HXr.low hb
                  replace HO := own_below HO hb (Nat.le_refl _)
                  replace HXx := HXx.low hb
                  replace HP := own_below HP hb (Nat.le_refl _)
                  replace HB := HB.trans (hb.mono HB.size)
                  clear hb
                  refine hK36 _ _ (Fw.FC.sub (f' := [(75, _), (10, _), (9, _), (4, _)]) (.cons rfl (.cons rfl (.cons rfl (.cons rfl .nil)))) ?_)
                  refine Fw.condF rfl ?_
                  refine Fw.skip ?_
                  refine hK35 _ _ ?_
                  refine Fw.seq fun _ hK39 => ?_
                  refine Fw.region ?_
                  refine Fw.ldA ag28 rfl (Fw.rdBlk HXx) rfl rfl ?_
                  refine Fw.s (Fw.val_move rfl) rfl ?_
                  refine Fw.s (Fw.val_len Try.underlying26 rfl) rfl ?_
                  refine Fw.storeW sz28 rfl rfl HXr rfl rfl (by exact Fw.oneCells rfl) ?_
                  intro w44 N_ hc
                  replace HO := own_to HO hc (fun g_ h_ e_ => own_ne HO HXr (by decide) (by rw [h_, e_]))
                  replace HXx := HXx.chg hc (by omega)
                  replace HP := own_to HP hc (fun g_ h_ e_ => own_ne HP HXr (by decide) (by rw [h_, e_]))
                  replace HB := HB.trans (hc.below (B := w.heap.size) (fun k e => by omega) HB.size)
                  clear hc
                  clear HXr
                  have HXr := N_
                  clear N_
                  refine Fw.s (Fw.val_assign rfl) rfl ?_
                  refine Fw.s (Fw.val_assign rfl) rfl ?_
                  refine Fw.nil ?_
                  refine hK39 _ _ ?_
                  refine Fw.ret ?_
                  refine Fw.ret_ [.cell 4 28, .tmp 5, .tmp 6] [_, _, _] Try.results40 (Fw.ResL.cellM rfl ag28 (Fw.rdBlk HXr) rfl (.tmp rfl (.tmp rfl .nil))) ?_
                  have hf := hx4 (Jr.bstr_inj (fun x hx => hb x (List.mem_of_mem_take hx)) (Jr.one_bts _ hx1) (Classical.byContradiction hne))
                  obtain ⟨z1, z2, z3, z4⟩ := Jr.f_some hf
                  rw [z1, z2, z4]
                  exact ⟨_, _, rfl, HO, HB⟩
              · skip
                refine Fw.hOp 16 rfl ?_
                refine Fw.alloc ze28 rfl ?_
                intro w45 gXx egXx HXx hb
                have rgXx : w5.heap.size ≤ gXx := by have := HS.size; omega
                have n_gXr_gXx : gXr < gXx := by have := HXr.lt; omega
                have n_gXf_gXx : gXf < gXx := by have := HRb.lt; omega
                have n_gS48_gXx : gS48 < gXx := by have := HS48.lt; omega
                have lgXx : w.heap.size ≤ gXx := by have := HB.size; omega
                replace HXr := HXr.low hb
                replace HRb := HRb.low hb
                replace HE := (hb.cell (World.block_lt_of_cell? _ _ HE)).trans HE
                replace HS := HS.trans (hb.mono HS.size)
                replace HS48 := HS48.low hb
                replace HB := HB.trans (hb.mono HB.size)
                clear hb
                clear egXx
                refine Fw.hNext HS ?_
                refine Fw.hAll1 14 (by kernel_rfl) ?_
                refine Fw.hOp 14 rfl ?_
                refine Fw.append (base := w5.heap.size) (((r.drop 1).take n)).length ((((r.drop 1).take n)).map (.int .u8)) slU8 rfl rfl (Fw.own_blk (n := 0) HS48 rgS48 (by decide) rfl) (hpart.low HS) (by rw [List.length_map, Nat.mul_one]; exact hbdl) oneCell_ints (⟨by unfold maxLen; omega, by omega⟩) HS.size (by rw [hbdl]; simp) rfl rfl ?_
                intro A56 c56 w46 N_ hbb hc _
                replace HXr := HXr.below hbb hXr0
                replace HRb := HRb.below hbb hRb0
                replace HXx := HXx.chg hc (by simp [Value.ownBlock]; omega)
                replace HS := HS.trans hbb
                replace HB := HB.trans (hbb.mono hB0)
                clear hbb hc
                have HO := own_base N_ hB0
                clear N_
                refine Fw.hNext HS ?_
                refine Fw.hTake 15 rfl rfl (by kernel_rfl) (by kernel_rfl) (by kernel_rfl) (Fw.yV (Fw.val_build (ps := [(0, _), (1, _)]) rfl (bu28_0_1 _ _ _ _))) rfl ?_
                refine Fw.hAll1 17 (by kernel_rfl) ?_
                refine Fw.hOp 17 rfl ?_
                refine Fw.storeW sz28 rfl rfl HXx rfl rfl (by exact Fw.oneCells rfl) ?_
                intro w47 N_ hc
                replace HXr := HXr.chg hc (by omega)
                replace HRb := HRb.chg hc (by omega)
                replace HS := HS.trans (hc.below (B := w5.heap.size) (fun k e => by omega) HS.size)
                replace HO := own_to HO hc (fun g_ h_ e_ => own_ne HO HXx (by decide) (by rw [h_, e_]))
                replace HB := HB.trans (hc.below (B := w.heap.size) (fun k e => by omega) HB.size)
                clear hc
                clear HXx
                have HXx := N_
                clear N_
                refine Fw.hNext HS ?_
                refine Fw.hDone (by kernel_rfl) ?_
                refine hK14 _ _ (Fw.FC.sub (f' := [(9, _), (4, _), (0, _), (1, _)]) (.cons rfl (.cons rfl (.cons rfl (.cons rfl .nil)))) ?_)
                refine Fw.seq fun _ hK40 => ?_
                refine Fw.region ?_
                refine Fw.s (Fw.val_move rfl) rfl ?_
                refine Fw.ldA ag28 rfl (Fw.rdBlk HXx) rfl rfl ?_
                refine Fw.call cf26 rfl rfl (jone_any _ s r[0] A56 ((r.drop 1).take n) c56 (Rd.of_own HO) (by omega) hs hx1.1 hx1.2) ?_
                rintro e_ w48 ⟨A60, c60, rfl, HP, hb⟩
                refine ⟨_, rfl, ?_⟩
                replace HXr := HXr.low hb
                replace HXx := HXx.low hb
                replace HO := own_below HO hb (Nat.le_refl _)
                replace HB := HB.trans (hb.mono HB.size)
                clear hb
                refine Fw.s (Fw.val_assign rfl) rfl ?_
                refine Fw.nil ?_
                refine hK40 _ _ ?_
                refine Fw.seq fun _ hK41 => ?_
                refine Fw.seq fun _ hK42 => ?_
                refine Fw.regionQ (by kernel_rfl) (by kernel_rfl) ?_
                refine Fw.q (Fw.val_move rfl) rfl ?_
                refine Fw.q (Fw.val_len Try.underlying26 rfl) rfl ?_
                refine Fw.q (Fw.val_move rfl) rfl ?_
                refine Fw.q (Fw.val_len Try.underlying26 rfl) rfl ?_
                refine Fw.q (Fw.Val.F (Fw.val_bin rfl rfl Fw.b_lss) (by omega)) rfl ?_
                refine Fw.q (Fw.val_move rfl) rfl ?_
                refine Fw.gTQ (d := 66) rfl rfl ?_
                refine Fw.q (Fw.val_move rfl) rfl ?_
                refine Fw.gTQ (d := 66) rfl rfl ?_
                refine Fw.q (Fw.val_move rfl) rfl ?_
                refine Fw.gTQ (d := 66) rfl rfl ?_
                refine Fw.q (Fw.val_len Try.underlying26 rfl) rfl ?_
                refine Fw.gTQ (d := 66) rfl rfl ?_
                refine Fw.q (Fw.val_sliceTo (m := (Jr.one s ⟨r[0], (r.drop 1).take n⟩).length) Try.underlying26 sz5 rfl rfl rfl (by omega)) rfl ?_
                refine Fw.gTQ (d := 66) rfl rfl ?_
                refine Fw.q (Fw.val_str (l := b.take (Jr.one s ⟨r[0], (r.drop 1).take n⟩).length) Try.underlying26 Try.underlying5 Try.underlying9 rfl (fun w_ hb_ => ((h.low HB).take _).low hb_) (by rw [List.length_take]; omega)) rfl ?_
                refine Fw.gTQ (d := 66) rfl rfl ?_
                refine Fw.q (Fw.val_move rfl) rfl ?_
                refine Fw.gTQ (d := 66) rfl rfl ?_
                refine Fw.q (Fw.val_str (l := (Jr.one s ⟨r[0], (r.drop 1).take n⟩)) Try.underlying26 Try.underlying5 Try.underlying9 rfl (fun w_ hb_ => (Rd.of_own HP).low hb_) rfl) rfl ?_
                refine Fw.gTQ (d := 66) rfl rfl ?_
                refine Fw.q2 (Fw.val_bin rfl rfl Fw.b_neqS) rfl ?_ ?_
                · rintro hne
                  refine Fw.q (Fw.val_pickF rfl rfl) rfl ?_
                  refine Fw.nilQ ?_
                  intro w49 hb
                  replace HXr := HXr.low hb
                  replace HXx := HXx.low hb
                  replace HO := own_below HO hb (Nat.le_refl _)
                  replace HP := own_below HP hb (Nat.le_refl _)
                  replace HB := HB.trans (hb.mono HB.size)
                  clear hb
                  refine hK42 _ _ (Fw.FC.sub (f' := [(75, _), (10, _), (9, _), (4, _)]) (.cons rfl (.cons rfl (.cons rfl (.cons rfl .nil)))) ?_)
                  refine Fw.condT rfl ?_
                  refine Fw.seq fun _ hK44 => ?_
                  refine Fw.region ?_
                  refine Fw.s (Fw.val_build (ps := []) rfl (bu28_)) rfl ?_
                  refine Fw.storeW sz28 rfl rfl HXr rfl rfl (by exact Fw.oneCells rfl) ?_
                  intro w50 N_ hc
                  replace HXx := HXx.chg hc (by omega)
                  replace HO := own_to HO hc (fun g_ h_ e_ => own_ne HO HXr (by decide) (by rw [h_, e_]))
                  replace HP := own_to HP hc (fun g_ h_ e_ => own_ne HP HXr (by decide) (by rw [h_, e_]))
                  replace HB := HB.trans (hc.below (B := w.heap.size) (fun k e => by omega) HB.size)
                  clear hc
                  clear HXr
                  have HXr := N_
                  clear N_
                  refine Fw.s (Fw.val_assign rfl) rfl ?_
                  refine Fw.s (Fw.val_assign rfl) rfl ?_
                  refine Fw.nil ?_
                  refine hK44 _ _ ?_
                  refine Fw.ret ?_
                  refine Fw.X_ret ?_
                  refine Fw.ret_ [.cell 4 28, .tmp 5, .tmp 6] [_, _, _] Try.results40 (Fw.ResL.cellM rfl ag28 (Fw.rdBlk HXr) rfl (.tmp rfl (.tmp rfl .nil))) ?_
                  have hf : Jr.first s b = none := hx5 (fun e_ => hne (by rw [e_]))
                  obtain ⟨z1, z2, z3, z4⟩ := Jr.f_none hf
                  rw [z1, z2, z4]
                  exact ⟨none, 0, rfl, World.ownsRow_nil _ _ _ _, HB⟩
                · rintro hne
                  refine Fw.q (Fw.val_pickF rfl rfl) rfl ?_
                  refine Fw.nilQ ?_
                  intro w51 hb
                  replace HXr := HXr.low hb
                  replace HXx := HXx.low hb
                  replace HO := own_below HO hb (Nat.le_refl _)
                  replace HP := own_below HP hb (Nat.le_refl _)
                  replace HB := HB.trans (hb.mono HB.size)
                  clear hb
                  refine hK42 _ _ (Fw.FC.sub (f' := [(75, _), (10, _), (9, _), (4, _)]) (.cons rfl (.cons rfl (.cons rfl (.cons rfl .nil)))) ?_)
                  refine Fw.condF rfl ?_
                  refine Fw.skip ?_
                  refine hK41 _ _ ?_
                  refine Fw.seq fun _ hK45 => ?_
                  refine Fw.region ?_
                  refine Fw.ldA ag28 rfl (Fw.rdBlk HXx) rfl rfl ?_
                  refine Fw.s (Fw.val_move rfl) rfl ?_
                  refine Fw.s (Fw.val_len Try.underlying26 rfl) rfl ?_
                  refine Fw.storeW sz28 rfl rfl HXr rfl rfl (by exact Fw.oneCells rfl) ?_
                  intro w52 N_ hc
                  replace HXx := HXx.chg hc (by omega)
                  replace HO := own_to HO hc (fun g_ h_ e_ => own_ne HO HXr (by decide) (by rw [h_, e_]))
                  replace HP := own_to HP hc (fun g_ h_ e_ => own_ne HP HXr (by decide) (by rw [h_, e_]))
                  replace HB := HB.trans (hc.below (B := w.heap.size) (fun k e => by omega) HB.size)
                  clear hc
                  clear HXr
                  have HXr := N_
                  clear N_
                  refine Fw.s (Fw.val_assign rfl) rfl ?_
                  refine Fw.s (Fw.val_assign rfl) rfl ?_
                  refine Fw.nil ?_
                  refine hK45 _ _ ?_
                  refine Fw.ret ?_
                  refine Fw.ret_ [.cell 4 28, .tmp 5, .tmp 6] [_, _, _] Try.results40 (Fw.ResL.cellM rfl ag28 (Fw.rdBlk HXr) rfl (.tmp rfl (.tmp rfl .nil))) ?_
                  have hf := hx4 (Jr.bstr_inj (fun x hx => hb x (List.mem_of_mem_take hx)) (Jr.one_bts _ hx1) (Classical.byContradiction hne))
                  obtain ⟨z1, z2, z3, z4⟩ := Jr.f_some hf
                  rw [z1, z2, z4]
                  exact ⟨_, _, rfl, HO, HB⟩
            · skip
              refine Fw.hOp 16 rfl ?_
              refine Fw.alloc ze28 rfl ?_
              intro w53 gXx egXx HXx hb
              have rgXx : w5.heap.size ≤ gXx := by have := HS.size; omega
              have n_gXr_gXx : gXr < gXx := by have := HXr.lt; omega
              have n_gXf_gXx : gXf < gXx := by have := HRb.lt; omega
              have lgXx : w.heap.size ≤ gXx := by have := HB.size; omega
              replace HXr := HXr.low hb
              replace HRb := HRb.low hb
              replace HE := (hb.cell (World.block_lt_of_cell? _ _ HE)).trans HE
              replace HS := HS.trans (hb.mono HS.size)
              replace HB := HB.trans (hb.mono HB.size)
              clear hb
              clear egXx
              refine Fw.hNext HS ?_
              refine Fw.hAll1 6 (by kernel_rfl) ?_
              refine Fw.hOp 6 rfl ?_
              refine Fw.buildSlice [] sl26 rfl rfl (by exact Fw.allSz rfl) (by decide) rfl ?_
              intro w54 gS48 egS48 HS48 hb
              have rgS48 : w5.heap.size ≤ gS48 := by have := HS.size; omega
              have n_gXr_gS48 : gXr < gS48 := by have := HXr.lt; omega
              have n_gXf_gS48 : gXf < gS48 := by have := HRb.lt; omega
              have n_gXx_gS48 : gXx < gS48 := by have := HXx.lt; omega
              have lgS48 : w.heap.size ≤ gS48 := by have := HB.size; omega
              replace HXr := HXr.low hb
              replace HRb := HRb.low hb
              replace HE := (hb.cell (World.block_lt_of_cell? _ _ HE)).trans HE
              replace HS := HS.trans (hb.mono HS.size)
              replace HXx := HXx.low hb
              replace HB := HB.trans (hb.mono HB.size)
              clear hb
              clear egS48
              refine Fw.hNext HS ?_
              refine Fw.hAll1 14 (by kernel_rfl) ?_
              refine Fw.hOp 14 rfl ?_
              refine Fw.append (base := w5.heap.size) (((r.drop 1).take n)).length ((((r.drop 1).take n)).map (.int .u8)) slU8 rfl rfl (Fw.own_blk (n := 0) HS48 rgS48 (by decide) rfl) (hpart.low HS) (by rw [List.length_map, Nat.mul_one]; exact hbdl) oneCell_ints (⟨by unfold maxLen; omega, by omega⟩) HS.size (by rw [hbdl]; simp) rfl rfl ?_
              intro A56 c56 w55 N_ hbb hc _
              replace HXr := HXr.below hbb hXr0
              replace HRb := HRb.below hbb hRb0
              replace HXx := HXx.chg hc (by simp [Value.ownBlock]; omega)
              replace HS := HS.trans hbb
              replace HB := HB.trans (hbb.mono hB0)
              clear hbb hc
              have HO := own_base N_ hB0
              clear N_
              refine Fw.hNext HS ?_
              refine Fw.hTake 15 rfl rfl (by kernel_rfl) (by kernel_rfl) (by kernel_rfl) (Fw.yV (Fw.val_build (ps := [(0, _), (1, _)]) rfl (bu28_0_1 _ _ _ _))) rfl ?_
              refine Fw.hAll1 17 (by kernel_rfl) ?_
              refine Fw.hOp 17 rfl ?_
              refine Fw.storeW sz28 rfl rfl HXx rfl rfl (by exact Fw.oneCells rfl) ?_
              intro w56 N_ hc
              replace HXr := HXr.chg hc (by omega)
              replace HRb := HRb.chg hc (by omega)
              replace HS := HS.trans (hc.below (B := w5.heap.size) (fun k e => by omega) HS.size)
              replace HO := own_to HO hc (fun g_ h_ e_ => own_ne HO HXx (by decide) (by rw [h_, e_]))
              replace HB := HB.trans (hc.below (B := w.heap.size) (fun k e => by omega) HB.size)
              clear hc
              clear HXx
              have HXx := N_
              clear N_
              refine Fw.hNext HS ?_
              refine Fw.hDone (by kernel_rfl) ?_
              refine hK14 _ _ (Fw.FC.sub (f' := [(9, _), (4, _), (0, _), (1, _)]) (.cons rfl (.cons rfl (.cons rfl (.cons rfl .nil)))) ?_)
              refine Fw.seq fun _ hK46 => ?_
              refine Fw.region ?_
              refine Fw.s (Fw.val_move rfl) rfl ?_
              refine Fw.ldA ag28 rfl (Fw.rdBlk HXx) rfl rfl ?_
              refine Fw.call cf26 rfl rfl (jone_any _ s r[0] A56 ((r.drop 1).take n) c56 (Rd.of_own HO) (by omega) hs hx1.1 hx1.2) ?_
              rintro e_ w57 ⟨A60, c60, rfl, HP, hb⟩
              refine ⟨_, rfl, ?_⟩
              replace HXr := HXr.low hb
              replace HXx := HXx.low hb
              replace HO := own_below HO hb (Nat.le_refl _)
              replace HB := HB.trans (hb.mono HB.size)
              clear hb
              refine Fw.s (Fw.val_assign rfl) rfl ?_
              refine Fw.nil ?_
              refine hK46 _ _ ?_
              refine Fw.seq fun _ hK47 => ?_
              refine Fw.seq fun _ hK48 => ?_
              refine Fw.regionQ (by kernel_rfl) (by kernel_rfl) ?_
              refine Fw.q (Fw.val_move rfl) rfl ?_
              refine Fw.q (Fw.val_len Try.underlying26 rfl) rfl ?_
              refine Fw.q (Fw.val_move rfl) rfl ?_
              refine Fw.q (Fw.val_len Try.underlying26 rfl) rfl ?_
              refine Fw.q (Fw.Val.F (Fw.val_bin rfl rfl Fw.b_lss) (by omega)) rfl ?_
              refine Fw.q (Fw.val_move rfl) rfl ?_
              refine Fw.gTQ (d := 66) rfl rfl ?_
              refine Fw.q (Fw.val_move rfl) rfl ?_
              refine Fw.gTQ (d := 66) rfl rfl ?_
              refine Fw.q (Fw.val_move rfl) rfl ?_
              refine Fw.gTQ (d := 66) rfl rfl ?_
              refine Fw.q (Fw.val_len Try.underlying26 rfl) rfl ?_
              refine Fw.gTQ (d := 66) rfl rfl ?_
              refine Fw.q (Fw.val_sliceTo (m := (Jr.one s ⟨r[0], (r.drop 1).take n⟩).length) Try.underlying26 sz5 rfl rfl rfl (by omega)) rfl ?_
              refine Fw.gTQ (d := 66) rfl rfl ?_
              refine Fw.q (Fw.val_str (l := b.take (Jr.one s ⟨r[0], (r.drop 1).take n⟩).length) Try.underlying26 Try.underlying5 Try.underlying9 rfl (fun w_ hb_ => ((h.low HB).take _).low hb_) (by rw [List.length_take]; omega)) rfl ?_
              refine Fw.gTQ (d := 66) rfl rfl ?_
              refine Fw.q (Fw.val_move rfl) rfl ?_
              refine Fw.gTQ (d := 66) rfl rfl ?_
              refine Fw.q (Fw.val_str (l := (Jr.one s ⟨r[0], (r.drop 1).take n⟩)) Try.underlying26 Try.underlying5 Try.underlying9 rfl (fun w_ hb_ => (Rd.of_own HP).low hb_) rfl) rfl ?_
              refine Fw.gTQ (d := 66) rfl rfl ?_
              refine Fw.q2 (Fw.val_bin rfl rfl Fw.b_neqS) rfl ?_ ?_
              · rintro hne
                refine Fw.q (Fw.val_pickF rfl rfl) rfl ?_
                refine Fw.nilQ ?_
                intro w58 hb
                replace HXr := HXr.low hb
                replace HXx := HXx.low hb
                replace HO := own_below HO hb (Nat.le_refl _)
                replace HP := own_below HP hb (Nat.le_refl _)
                replace HB := HB.trans (hb.mono HB.size)
                clear hb
                refine hK48 _ _ (Fw.FC.sub (f' := [(75, _), (10, _), (9, _), (4, _)]) (.cons rfl (.cons rfl (.cons rfl (.cons rfl .nil)))) ?_)
                refine Fw.condT rfl ?_
                refine Fw.seq fun _ hK50 => ?_
                refine Fw.region ?_
                refine Fw.s (Fw.val_build (ps := []) rfl (bu28_)) rfl ?_
                refine Fw.storeW sz28 rfl rfl HXr rfl rfl (by exact Fw.oneCells rfl) ?_
                intro w59 N_ hc
                replace HXx := HXx.chg hc (by omega)
                replace HO := own_to HO hc (fun g_ h_ e_ => own_ne HO HXr (by decide) (by rw [h_, e_]))
                replace HP := own_to HP hc (fun g_ h_ e_ => own_ne HP HXr (by decide) (by rw [h_, e_]))
                replace HB := HB.trans (hc.below (B := w.heap.size) (fun k e => by omega) HB.size)
                clear hc
                clear HXr
                have HXr := N_
                clear N_
                refine Fw.s (Fw.val_assign rfl) rfl ?_
                refine Fw.s (Fw.val_assign rfl) rfl ?_
                refine Fw.nil ?_
                refine hK50 _ _ ?_
                refine Fw.ret ?_
                refine Fw.X_ret ?_
                refine Fw.ret_ [.cell 4 28, .tmp 5, .tmp 6] [_, _, _] Try.results40 (Fw.ResL.cellM rfl ag28 (Fw.rdBlk HXr) rfl (.tmp rfl (.tmp rfl .nil))) ?_
                have hf : Jr.first s b = none := hx5 (fun e_ => hne (by rw [e_]))
                obtain ⟨z1, z2, z3, z4⟩ := Jr.f_none hf
                rw [z1, z2, z4]
                exact ⟨none, 0, rfl, World.ownsRow_nil _ _ _ _, HB⟩
              · rintro hne
                refine Fw.q (Fw.val_pickF rfl rfl) rfl ?_
                refine Fw.nilQ ?_
                intro w60 hb
                replace HXr := HXr.low hb
                replace HXx := HXx.low hb
                replace HO := own_below HO hb (Nat.le_refl _)
                replace HP := own_below HP hb (Nat.le_refl _)
                replace HB := HB.trans (hb.mono HB.size)
                clear hb
                refine hK48 _ _ (Fw.FC.sub (f' := [(75, _), (10, _), (9, _), (4, _)]) (.cons rfl (.cons rfl (.cons rfl (.cons rfl .nil)))) ?_)
                refine Fw.condF rfl ?_
                refine Fw.skip ?_
                refine hK47 _ _ ?_
                refine Fw.seq fun _ hK51 => ?_
                refine Fw.region ?_
                refine Fw.ldA ag28 rfl (Fw.rdBlk HXx) rfl rfl ?_
                refine Fw.s (Fw.val_move rfl) rfl ?_
                refine Fw.s (Fw.val_len Try.underlying26 rfl) rfl ?_
                refine Fw.storeW sz28 rfl rfl HXr rfl rfl (by exact Fw.oneCells rfl) ?_
                intro w61 N_ hc
                replace HXx := HXx.chg hc (by omega)
                replace HO := own_to HO hc (fun g_ h_ e_ => own_ne HO HXr (by decide) (by rw [h_, e_]))
                replace HP := own_to HP hc (fun g_ h_ e_ => own_ne HP HXr (by decide) (by rw [h_, e_]))
                replace HB := HB.trans (hc.below (B := w.heap.size) (fun k e => by omega) HB.size)
                clear hc
                clear HXr
                have HXr := N_
                clear N_
                refine Fw.s (Fw.val_assign rfl) rfl ?_
                refine Fw.s (Fw.val_assign rfl) rfl ?_
                refine Fw.nil ?_
                refine hK51 _ _ ?_
                refine Fw.ret ?_
                refine Fw.ret_ [.cell 4 28, .tmp 5, .tmp 6] [_, _, _] Try.results40 (Fw.ResL.cellM rfl ag28 (Fw.rdBlk HXr) rfl (.tmp rfl (.tmp rfl .nil))) ?_
                have hf := hx4 (Jr.bstr_inj (fun x hx => hb x (List.mem_of_mem_take hx)) (Jr.one_bts _ hx1) (Classical.byContradiction hne))
                obtain ⟨z1, z2, z3, z4⟩ := Jr.f_some hf
                rw [z1, z2, z4]
                exact ⟨_, _, rfl, HO, HB⟩
          · skip
            refine Fw.hOp 16 rfl ?_
            refine Fw.alloc ze28 rfl ?_
            intro w62 gXx egXx HXx hb
            have rgXx : w5.heap.size ≤ gXx := by have := HS.size; omega
            have n_gXr_gXx : gXr < gXx := by have := HXr.lt; omega
            have n_gXf_gXx : gXf < gXx := by have := HRb.lt; omega
            have lgXx : w.heap.size ≤ gXx := by have := HB.size; omega
            replace HXr := HXr.low hb
            replace HRb := HRb.low hb
            replace HE := (hb.cell (World.block_lt_of_cell? _ _ HE)).trans HE
            replace HS := HS.trans (hb.mono HS.size)
            replace HB := HB.trans (hb.mono HB.size)
            clear hb
            clear egXx
            refine Fw.hNext HS ?_
            refine Fw.hAll2 6 13 (by kernel_rfl) ?_ ?_
            · skip
              refine Fw.hOp 6 rfl ?_
              refine Fw.buildSlice [] sl26 rfl rfl (by exact Fw.allSz rfl) (by decide) rfl ?_
              intro w63 gS48 egS48 HS48 hb
              have rgS48 : w5.heap.size ≤ gS48 := by have := HS.size; omega
              have n_gXr_gS48 : gXr < gS48 := by have := HXr.lt; omega
              have n_gXf_gS48 : gXf < gS48 := by have := HRb.lt; omega
              have n_gXx_gS48 : gXx < gS48 := by have := HXx.lt; omega
              have lgS48 : w.heap.size ≤ gS48 := by have := HB.size; omega
              replace HXr := HXr.low hb
              replace HRb := HRb.low hb
              replace HE := (hb.cell (World.block_lt_of_cell? _ _ HE)).trans HE
              replace HS := HS.trans (hb.mono HS.size)
              replace HXx := HXx.low hb
              replace HB := HB.trans (hb.mono HB.size)
              clear hb
              clear egS48
              refine Fw.hNext HS ?_
              refine Fw.hAll1 13 (by kernel_rfl) ?_
              refine Fw.hOp 13 rfl ?_
              refine Fw.s (Fw.val_sliceLH (l := 1) (h := 1 + n) (m := n) Try.underlying26 sz5 rfl rfl rfl rfl rfl (by omega) (by omega) (by omega)) rfl ?_
              refine Fw.hNext HS ?_
              refine Fw.hAll1 14 (by kernel_rfl) ?_
              refine Fw.hOp 14 rfl ?_
              refine Fw.append (base := w5.heap.size) (((r.drop 1).take n)).length ((((r.drop 1).take n)).map (.int .u8)) slU8 rfl rfl (Fw.own_blk (n := 0) HS48 rgS48 (by decide) rfl) (hpart.low HS) (by rw [List.length_map, Nat.mul_one]; exact hbdl) oneCell_ints (⟨by unfold maxLen; omega, by omega⟩) HS.size (by rw [hbdl]; simp) rfl rfl ?_
              intro A56 c56 w64 N_ hbb hc _
              replace HXr := HXr.below hbb hXr0
              replace HRb := HRb.below hbb hRb0
              replace HXx := HXx.chg hc (by simp [Value.ownBlock]; omega)
              replace HS := HS.trans hbb
              replace HB := HB.trans (hbb.mono hB0)
              clear hbb hc
              have HO := own_base N_ hB0
              clear N_
              refine Fw.hNext HS ?_
              refine Fw.hTake 15 rfl rfl (by kernel_rfl) (by kernel_rfl) (by kernel_rfl) (Fw.yV (Fw.val_build (ps := [(0, _), (1, _)]) rfl (bu28_0_1 _ _ _ _))) rfl ?_
              refine Fw.hAll1 17 (by kernel_rfl) ?_
              refine Fw.hOp 17 rfl ?_
              refine Fw.storeW sz28 rfl rfl HXx rfl rfl (by exact Fw.oneCells rfl) ?_
              intro w65 N_ hc
              replace HXr := HXr.chg hc (by omega)
              replace HRb := HRb.chg hc (by omega)
              replace HS := HS.trans (hc.below (B := w5.heap.size) (fun k e => by omega) HS.size)
              replace HO := own_to HO hc (fun g_ h_ e_ => own_ne HO HXx (by decide) (by rw [h_, e_]))
              replace HB := HB.trans (hc.below (B := w.heap.size) (fun k e => by omega) HB.size)
              clear hc
              clear HXx
              have HXx := N_
              clear N_
              refine Fw.hNext HS ?_
              refine Fw.hDone (by kernel_rfl) ?_
              refine hK14 _ _ (Fw.FC.sub (f' := [(9, _), (4, _), (0, _), (1, _)]) (.cons rfl (.cons rfl (.cons rfl (.cons rfl .nil)))) ?_)
              refine Fw.seq fun _ hK52 => ?_
              refine Fw.region ?_
              refine Fw.s (Fw.val_move rfl) rfl ?_
              refine Fw.ldA ag28 rfl (Fw.rdBlk HXx) rfl rfl ?_
              refine Fw.call cf26 rfl rfl (jone_any _ s r[0] A56 ((r.drop 1).take n) c56 (Rd.of_own HO) (by omega) hs hx1.1 hx1.2) ?_
              rintro e_ w66 ⟨A60, c60, rfl, HP, hb⟩
              refine ⟨_, rfl, ?_⟩
              replace HXr := HXr.low hb
              replace HXx := HXx.low hb
              replace HO := own_below HO hb (Nat.le_refl _)
              replace HB := HB.trans (hb.mono HB.size)
              clear hb
              refine Fw.s (Fw.val_assign rfl) rfl ?_
              refine Fw.nil ?_
              refine hK52 _ _ ?_
              refine Fw.seq fun _ hK53 => ?_
              refine Fw.seq fun _ hK54 => ?_
              refine Fw.regionQ (by kernel_rfl) (by kernel_rfl) ?_
              refine Fw.q (Fw.val_move rfl) rfl ?_
              refine Fw.q (Fw.val_len Try.underlying26 rfl) rfl ?_
              refine Fw.q (Fw.val_move rfl) rfl ?_
              refine Fw.q (Fw.val_len Try.underlying26 rfl) rfl ?_
              refine Fw.q (Fw.Val.F (Fw.val_bin rfl rfl Fw.b_lss) (by omega)) rfl ?_
              refine Fw.q (Fw.val_move rfl) rfl ?_
              refine Fw.gTQ (d := 66) rfl rfl ?_
              refine Fw.q (Fw.val_move rfl) rfl ?_
              refine Fw.gTQ (d := 66) rfl rfl ?_
              refine Fw.q (Fw.val_move rfl) rfl ?_
              refine Fw.gTQ (d := 66) rfl rfl ?_
              refine Fw.q (Fw.val_len Try.underlying26 rfl) rfl ?_
              refine Fw.gTQ (d := 66) rfl rfl ?_
              refine Fw.q (Fw.val_sliceTo (m := (Jr.one s ⟨r[0], (r.drop 1).take n⟩).length) Try.underlying26 sz5 rfl rfl rfl (by omega)) rfl ?_
              refine Fw.gTQ (d := 66) rfl rfl ?_
              refine Fw.q (Fw.val_str (l := b.take (Jr.one s ⟨r[0], (r.drop 1).take n⟩).length) Try.underlying26 Try.underlying5 Try.underlying9 rfl (fun w_ hb_ => ((h.low HB).take _).low hb_) (by rw [List.length_take]; omega)) rfl ?_
              refine Fw.gTQ (d := 66) rfl rfl ?_
              refine Fw.q (Fw.val_move rfl) rfl ?_
              refine Fw.gTQ (d := 66) rfl rfl ?_
              refine Fw.q (Fw.val_str (l := (Jr.one s ⟨r[0], (r.drop 1).take n⟩)) Try.underlying26 Try.underlying5 Try.underlying9 rfl (fun w_ hb_ => (Rd.of_own HP).low hb_) rfl) rfl ?_
              refine Fw.gTQ (d := 66) rfl rfl ?_
              refine Fw.q2 (Fw.val_bin rfl rfl Fw.b_neqS) rfl ?_ ?_
              · rintro hne
                refine Fw.q (Fw.val_pickF rfl rfl) rfl ?_
                refine Fw.nilQ ?_
                intro w67 hb
                replace HXr := HXr.low hb
                replace HXx := HXx.low hb
                replace HO := own_below HO hb (Nat.le_refl _)
                replace HP := own_below HP hb (Nat.le_refl _)
                replace HB := HB.trans (hb.mono HB.size)
                clear hb
                refine hK54 _ _ (Fw.FC.sub (f' := [(75, _), (10, _), (9, _), (4, _)]) (.cons rfl (.cons rfl (.cons rfl (.cons rfl .nil)))) ?_)
                refine Fw.condT rfl ?_
                refine Fw.seq fun _ hK56 => ?_
                refine Fw.region ?_
                refine Fw.s (Fw.val_build (ps := []) rfl (bu28_)) rfl ?_
                refine Fw.storeW sz28 rfl rfl HXr rfl rfl (by exact Fw.oneCells rfl) ?_
                intro w68 N_ hc
                replace HXx := HXx.chg hc (by omega)
                replace HO := own_to HO hc (fun g_ h_ e_ => own_ne HO HXr (by decide) (by rw [h_, e_]))
                replace HP := own_to HP hc (fun g_ h_ e_ => own_ne HP HXr (by decide) (by rw [h_, e_]))
                replace HB := HB.trans (hc.below (B := w.heap.size) (fun k e => by omega) HB.size)
                clear hc
                clear HXr
                have HXr := N_
                clear N_
                refine Fw.s (Fw.val_assign rfl) rfl ?_
                refine Fw.s (Fw.val_assign rfl) rfl ?_
                refine Fw.nil ?_
                refine hK56 _ _ ?_
                refine Fw.ret ?_
                refine Fw.X_ret ?_
                refine Fw.ret_ [.cell 4 28, .tmp 5, .tmp 6] [_, _, _] Try.results40 (Fw.ResL.cellM rfl ag28 (Fw.rdBlk HXr) rfl (.tmp rfl (.tmp rfl .nil))) ?_
                have hf : Jr.first s b = none := hx5 (fun e_ => hne (by rw [e_]))
                obtain ⟨z1, z2, z3, z4⟩ := Jr.f_none hf
                rw [z1, z2, z4]
                exact ⟨none, 0, rfl, World.ownsRow_nil _ _ _ _, HB⟩
              · rintro hne
                refine Fw.q (Fw.val_pickF rfl rfl) rfl ?_
                refine Fw.nilQ ?_
                intro w69 hb
                replace HXr := HXr.low hb
                replace HXx := HXx.low hb
                replace HO := own_below HO hb (Nat.le_refl _)
                replace HP := own_below HP hb (Nat.le_refl _)
                replace HB := HB.trans (hb.mono HB.size)
                clear hb
                refine hK54 _ _ (Fw.FC.sub (f' := [(75, _), (10, _), (9, _), (4, _)]) (.cons rfl (.cons rfl (.cons rfl (.cons rfl .nil)))) ?_)
                refine Fw.condF rfl ?_
                refine Fw.skip ?_
                refine hK53 _ _ ?_
                refine Fw.seq fun _ hK57 => ?_
                refine Fw.region ?_
                refine Fw.ldA ag28 rfl (Fw.rdBlk HXx) rfl rfl ?_
                refine Fw.s (Fw.val_move rfl) rfl ?_
                refine Fw.s (Fw.val_len Try.underlying26 rfl) rfl ?_
                refine Fw.storeW sz28 rfl rfl HXr rfl rfl (by exact Fw.oneCells rfl) ?_
                intro w70 N_ hc
                replace HXx := HXx.chg hc (by omega)
                replace HO := own_to HO hc (fun g_ h_ e_ => own_ne HO HXr (by decide) (by rw [h_, e_]))
                replace HP := own_to HP hc (fun g_ h_ e_ => own_ne HP HXr (by decide) (by rw [h_, e_]))
                replace HB := HB.trans (hc.below (B := w.heap.size) (fun k e => by omega) HB.size)
                clear hc
                clear HXr
                have HXr := N_
                clear N_
                refine Fw.s (Fw.val_assign rfl) rfl ?_
                refine Fw.s (Fw.val_assign rfl) rfl ?_
                refine Fw.nil ?_
                refine hK57 _ _ ?_
                refine Fw.ret ?_
                refine Fw.ret_ [.cell 4 28, .tmp 5, .tmp 6] [_, _, _] Try.results40 (Fw.ResL.cellM rfl ag28 (Fw.rdBlk HXr) rfl (.tmp rfl (.tmp rfl .nil))) ?_
                have hf := hx4 (Jr.bstr_inj (fun x hx => hb x (List.mem_of_mem_take hx)) (Jr.one_bts _ hx1) (Classical.byContradiction hne))
                obtain ⟨z1, z2, z3, z4⟩ := Jr.f_some hf
                rw [z1, z2, z4]
                exact ⟨_, _, rfl, HO, HB⟩
            · skip
              refine Fw.hOp 13 rfl ?_
              refine Fw.s (Fw.val_sliceLH (l := 1) (h := 1 + n) (m := n) Try.underlying26 sz5 rfl rfl rfl rfl rfl (by omega) (by omega) (by omega)) rfl ?_
              refine Fw.hNext HS ?_
              refine Fw.hAll1 6 (by kernel_rfl) ?_
              refine Fw.hOp 6 rfl ?_
              refine Fw.buildSlice [] sl26 rfl rfl (by exact Fw.allSz rfl) (by decide) rfl ?_
              intro w71 gS48 egS48 HS48 hb
              have rgS48 : w5.heap.size ≤ gS48 := by have := HS.size; omega
              have n_gXr_gS48 : gXr < gS48 := by have := HXr.lt; omega
              have n_gXf_gS48 : gXf < gS48 := by have := HRb.lt; omega
              have n_gXx_gS48 : gXx < gS48 := by have := HXx.lt; omega
              have lgS48 : w.heap.size ≤ gS48 := by have := HB.size; omega
              replace HXr := HXr.low hb
              replace HRb := HRb.low hb
              replace HE := (hb.cell (World.block_lt_of_cell? _ _ HE)).trans HE
              replace HS := HS.trans (hb.mono HS.size)
              replace HXx := HXx.low hb
              replace HB := HB.trans (hb.mono HB.size)
              clear hb
              clear egS48
              refine Fw.hNext HS ?_
              refine Fw.hAll1 14 (by kernel_rfl) ?_
              refine Fw.hOp 14 rfl ?_
              refine Fw.append (base := w5.heap.size) (((r.drop 1).take n)).length ((((r.drop 1).take n)).map (.int .u8)) slU8 rfl rfl (Fw.own_blk (n := 0) HS48 rgS48 (by decide) rfl) (hpart.low HS) (by rw [List.length_map, Nat.mul_one]; exact hbdl) oneCell_ints (⟨by unfold maxLen; omega, by omega⟩) HS.size (by rw [hbdl]; simp) rfl rfl ?_
              intro A56 c56 w72 N_ hbb hc _
              replace HXr := HXr.below hbb hXr0
              replace HRb := HRb.below hbb hRb0
              replace HXx := HXx.chg hc (by simp [Value.ownBlock]; omega)
              replace HS := HS.trans hbb
              replace HB := HB.trans (hbb.mono hB0)
              clear hbb hc
              have HO := own_base N_ hB0
              clear N_
              refine Fw.hNext HS ?_
              refine Fw.hTake 15 rfl rfl (by kernel_rfl) (by kernel_rfl) (by kernel_rfl) (Fw.yV (Fw.val_build (ps := [(0, _), (1, _)]) rfl (bu28_0_1 _ _ _ _))) rfl ?_
              refine Fw.hAll1 17 (by kernel_rfl) ?_
              refine Fw.hOp 17 rfl ?_
              refine Fw.storeW sz28 rfl rfl HXx rfl rfl (by exact Fw.oneCells rfl) ?_
              intro w73 N_ hc
              replace HXr := HXr.chg hc (by omega)
              replace HRb := HRb.chg hc (by omega)
              replace HS := HS.trans (hc.below (B := w5.heap.size) (fun k e => by omega) HS.size)
              replace HO := own_to HO hc (fun g_ h_ e_ => own_ne HO HXx (by decide) (by rw [h_, e_]))
              replace HB := HB.trans (hc.below (B := w.heap.size) (fun k e => by omega) HB.size)
              clear hc
              clear HXx
              have HXx := N_
              clear N_
              refine Fw.hNext HS ?_
              refine Fw.hDone (by kernel_rfl) ?_
              refine hK14 _ _ (Fw.FC.sub (f' := [(9, _), (4, _), (0, _), (1, _)]) (.cons rfl (.cons rfl (.cons rfl (.cons rfl .nil)))) ?_)
              refine Fw.seq fun _ hK58 => ?_
              refine Fw.region ?_
              refine Fw.s (Fw.val_move rfl) rfl ?_
              refine Fw.ldA ag28 rfl (Fw.rdBlk HXx) rfl rfl ?_
              refine Fw.call cf26 rfl rfl (jone_any _ s r[0] A56 ((r.drop 1).take n) c56 (Rd.of_own HO) (by omega) hs hx1.1 hx1.2) ?_
              rintro e_ w74 ⟨A60, c60, rfl, HP, hb⟩
              refine ⟨_, rfl, ?_⟩
              replace HXr := HXr.low hb
              replace HXx := HXx.low hb
              replace HO := own_below HO hb (Nat.le_refl _)
              replace HB := HB.trans (hb.mono HB.size)
              clear hb
              refine Fw.s (Fw.val_assign rfl) rfl ?_
              refine Fw.nil ?_
              refine hK58 _ _ ?_
              refine Fw.seq fun _ hK59 => ?_
              refine Fw.seq fun _ hK60 => ?_
              refine Fw.regionQ (by kernel_rfl) (by kernel_rfl) ?_
              refine Fw.q (Fw.val_move rfl) rfl ?_
              refine Fw.q (Fw.val_len Try.underlying26 rfl) rfl ?_
              refine Fw.q (Fw.val_move rfl) rfl ?_
              refine Fw.q (Fw.val_len Try.underlying26 rfl) rfl ?_
              refine Fw.q (Fw.Val.F (Fw.val_bin rfl rfl Fw.b_lss) (by omega)) rfl ?_
              refine Fw.q (Fw.val_move rfl) rfl ?_
              refine Fw.gTQ (d := 66) rfl rfl ?_
              refine Fw.q (Fw.val_move rfl) rfl ?_
              refine Fw.gTQ (d := 66) rfl rfl ?_
              refine Fw.q (Fw.val_move rfl) rfl ?_
              refine Fw.gTQ (d := 66) rfl rfl ?_
              refine Fw.q (Fw.val_len Try.underlying26 rfl) rfl ?_
              refine Fw.gTQ (d := 66) rfl rfl ?_
              refine Fw.q (Fw.val_sliceTo (m := (Jr.one s ⟨r[0], (r.drop 1).take n⟩).length) Try.underlying26 sz5 rfl rfl rfl (by omega)) rfl ?_
              refine Fw.gTQ (d := 66) rfl rfl ?_
              refine Fw.q (Fw.val_str (l := b.take (Jr.one s ⟨r[0], (r.drop 1).take n⟩).length) Try.underlying26 Try.underlying5 Try.underlying9 rfl (fun w_ hb_ => ((h.low HB).take _).low hb_) (by rw [List.length_take]; omega)) rfl ?_
              refine Fw.gTQ (d := 66) rfl rfl ?_
              refine Fw.q (Fw.val_move rfl) rfl ?_
              refine Fw.gTQ (d := 66) rfl rfl ?_
              refine Fw.q (Fw.val_str (l := (Jr.one s ⟨r[0], (r.drop 1).take n⟩)) Try.underlying26 Try.underlying5 Try.underlying9 rfl (fun w_ hb_ => (Rd.of_own HP).low hb_) rfl) rfl ?_
              refine Fw.gTQ (d := 66) rfl rfl ?_
              refine Fw.q2 (Fw.val_bin rfl rfl Fw.b_neqS) rfl ?_ ?_
              · rintro hne
                refine Fw.q (Fw.val_pickF rfl rfl) rfl ?_
                refine Fw.nilQ ?_
                intro w75 hb
                replace HXr := HXr.low hb
                replace HXx := HXx.low hb
                replace HO := own_below HO hb (Nat.le_refl _)
                replace HP := own_below HP hb (Nat.le_refl _)
                replace HB := HB.trans (hb.mono HB.size)
                clear hb
                refine hK60 _ _ (Fw.FC.sub (f' := [(75, _), (10, _), (9, _), (4, _)]) (.cons rfl (.cons rfl (.cons rfl (.cons rfl .nil)))) ?_)
                refine Fw.condT rfl ?_
                refine Fw.seq fun _ hK62 => ?_
                refine Fw.region ?_
                refine Fw.s (Fw.val_build (ps := []) rfl (bu28_)) rfl ?_
                refine Fw.storeW sz28 rfl rfl HXr rfl rfl (by exact Fw.oneCells rfl) ?_
                intro w76 N_ hc
                replace HXx := HXx.chg hc (by omega)
                replace HO := own_to HO hc (fun g_ h_ e_ => own_ne HO HXr (by decide) (by rw [h_, e_]))
                replace HP := own_to HP hc (fun g_ h_ e_ => own_ne HP HXr (by decide) (by rw [h_, e_]))
                replace HB := HB.trans (hc.below (B := w.heap.size) (fun k e => by omega) HB.size)
                clear hc
                clear HXr
                have HXr := N_
                clear N_
                refine Fw.s (Fw.val_assign rfl) rfl ?_
                refine Fw.s (Fw.val_assign rfl) rfl ?_
                refine Fw.nil ?_
                refine hK62 _ _ ?_
                refine Fw.ret ?_
                refine Fw.X_ret ?_
                refine Fw.ret_ [.cell 4 28, .tmp 5, .tmp 6] [_, _, _] Try.results40 (Fw.ResL.cellM rfl ag28 (Fw.rdBlk HXr) rfl (.tmp rfl (.tmp rfl .nil))) ?_
                have hf : Jr.first s b = none := hx5 (fun e_ => hne (by rw [e_]))
                obtain ⟨z1, z2, z3, z4⟩ := Jr.f_none hf
                rw [z1, z2, z4]
                exact ⟨none, 0, rfl, World.ownsRow_nil _ _ _ _, HB⟩
              · rintro hne
                refine Fw.q (Fw.val_pickF rfl rfl) rfl ?_
                refine Fw.nilQ ?_
                intro w77 hb
                replace HXr := HXr.low hb
                replace HXx := HXx.low hb
                replace HO := own_below HO hb (Nat.le_refl _)
                replace HP := own_below HP hb (Nat.le_refl _)
                replace HB := HB.trans (hb.mono HB.size)
                clear hb
                refine hK60 _ _ (Fw.FC.sub (f' := [(75, _), (10, _), (9, _), (4, _)]) (.cons rfl (.cons rfl (.cons rfl (.cons rfl .nil)))) ?_)
                refine Fw.condF rfl ?_
                refine Fw.skip ?_
                refine hK59 _ _ ?_
                refine Fw.seq fun _ hK63 => ?_
                refine Fw.region ?_
                refine Fw.ldA ag28 rfl (Fw.rdBlk HXx) rfl rfl ?_
                refine Fw.s (Fw.val_move rfl) rfl ?_
                refine Fw.s (Fw.val_len Try.underlying26 rfl) rfl ?_
                refine Fw.storeW sz28 rfl rfl HXr rfl rfl (by exact Fw.oneCells rfl) ?_
                intro w78 N_ hc
                replace HXx := HXx.chg hc (by omega)
                replace HO := own_to HO hc (fun g_ h_ e_ => own_ne HO HXr (by decide) (by rw [h_, e_]))
                replace HP := own_to HP hc (fun g_ h_ e_ => own_ne HP HXr (by decide) (by rw [h_, e_]))
                replace HB := HB.trans (hc.below (B := w.heap.size) (fun k e => by omega) HB.size)
                clear hc
                clear HXr
                have HXr := N_
                clear N_
                refine Fw.s (Fw.val_assign rfl) rfl ?_
                refine Fw.s (Fw.val_assign rfl) rfl ?_
                refine Fw.nil ?_
                refine hK63 _ _ ?_
                refine Fw.ret ?_
                refine Fw.ret_ [.cell 4 28, .tmp 5, .tmp 6] [_, _, _] Try.results40 (Fw.ResL.cellM rfl ag28 (Fw.rdBlk HXr) rfl (.tmp rfl (.tmp rfl .nil))) ?_
                have hf := hx4 (Jr.bstr_inj (fun x hx => hb x (List.mem_of_mem_take hx)) (Jr.one_bts _ hx1) (Classical.byContradiction hne))
                obtain ⟨z1, z2, z3, z4⟩ := Jr.f_some hf
                rw [z1, z2, z4]
                exact ⟨_, _, rfl, HO, HB⟩

end Go.Proofs.Ytnljnnnplfjnhaa
