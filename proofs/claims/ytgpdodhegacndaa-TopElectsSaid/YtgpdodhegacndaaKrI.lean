/- Layer 20: Sync, Checksum, Records. -/
import Derived.Test.YtgpdodhegacndaaKrH
namespace Go.Proofs.Ytgpdodhegacndaa
set_option linter.unusedSimpArgs false
set_option linter.unusedVariables false
open Go.RowKit

set_option maxRecDepth 100000 in
set_option maxHeartbeats 1000000 in
theorem jsync_any (w : World) (B p pf : Nat) (g : Option Nat) (t : St.T) (L : List Rv) (h : JAt w B p pf g t L) (hl : t.data.length ≤ 16777216) : Calls Try.prog 42 #[.pointer (some ⟨p, 0, none⟩)] w fun e_ w' => ∃ g', e_ = .returned (.int .i64 (St.syncE t)) ∧ JAt w' B p pf g' (St.sync t) L ∧ Kf B TS g w w' ∧ (g' = g ∨ ∃ k, g' = some k ∧ w.heap.size ≤ k) := by
  have h0 := h
  obtain ⟨hBp, HF, A1, c1, A2, c2, HJ, HO, HU⟩ := h
  refine Fw.calls Try.func42 rfl Try.ntmps42 rfl ?_
  refine Fw.seq fun _ hK1 => ?_
  refine Fw.region ?_
  refine Fw.s (Fw.val_assign rfl) rfl ?_
  refine Fw.nil ?_
  refine hK1 _ _ ?_
  refine Fw.seq fun _ hK2 => ?_
  refine Fw.region ?_
  refine Fw.s (Fw.val_move rfl) rfl ?_
  refine Fw.s (Fw.val_nil rfl) rfl ?_
  refine Fw.s (Fw.val_fieldAddr fl62_0 rfl rfl) rfl ?_
  refine Fw.ld sc30 rfl (HJ.cell 0) rfl ?_
  refine Fw.call cf23 rfl rfl (sync_any _ B pf g t HF hl) ?_
  rintro e_ w1 ⟨rfl, hto⟩
  refine ⟨_, rfl, ?_⟩
  refine Fw.s (Fw.val_assign rfl) rfl ?_
  refine Fw.nil ?_
  refine hK2 _ _ (Fw.FC.sub (f' := [(2, _)]) (.cons rfl .nil) ?_)
  refine Fw.ret ?_
  refine Fw.ret_ [.tmp 2] [_] Try.results42 (.tmp rfl .nil) ?_
  obtain ⟨g2, hj, hk, hg2⟩ := h0.file hto
  exact ⟨g2, rfl, hj, hk.ts (by decide), hg2⟩

namespace Jr
def ckB (l : List R) (n : Int) : Bool := decide (0 ≤ n ∧ n ≤ l.length)
def ckV (l : List R) (n : Int) : Int := if 0 ≤ n ∧ n ≤ l.length then sealF s0 (l.take n.toNat) else 0
end Jr
theorem set_take {α : Type} {l : List α} {k : Nat} {x : α} (hk : k < l.length) : (l.set k x).take (k + 1) = l.take k ++ [x] := by
  rw [List.take_succ_eq_append_getElem (by rw [List.length_set]; exact hk), List.getElem_set_self, List.take_set_of_le (Nat.le_refl _)]
def Bods (w : World) (g : Option Nat) (D : Nat) (l : List Rv) : Prop := ∀ v ∈ l, Bod w g D v
theorem Bods.low {w w' : World} {g : Option Nat} {D : Nat} {l : List Rv} (h : Bods w g D l) (hb : Below w.heap.size w w') (hD : D ≤ w.heap.size) : Bods w' g D l := fun v hv => (h v hv).low hb hD
theorem Bods.kf {w w' : World} {g : Option Nat} {D : Nat} {ts : List TypeId} {l : List Rv} (h : Bods w g D l) (hk : Kf D ts g w w') (ht : ts.contains 5 = false) : Bods w' g D l := fun v hv => (h v hv).kf hk ht (.inl rfl)
theorem Bods.snoc {w : World} {g : Option Nat} {D : Nat} {l : List Rv} {v : Rv} (h : Bods w g D l) (hv : Bod w g D v) : Bods w g D (l ++ [v]) := fun x hx => by
  rcases List.mem_append.1 hx with h1 | h1
  · exact h x h1
  · simp at h1; subst h1; exact hv

set_option maxRecDepth 100000 in
set_option maxHeartbeats 1000000 in
theorem jrecords_any (w : World) (B p pf : Nat) (g : Option Nat) (t : St.T) (L : List Rv) (h : JAt w B p pf g t L) (hL : L.length ≤ 1000000) (hbig : ∀ v ∈ L, v.b.length ≤ 100000) : Calls Try.prog 24 #[.pointer (some ⟨p, 0, none⟩)] w fun e_ w' => ∃ (L' : List Rv) (A' : Option Addr) (c' : Nat), e_ = .returned (.slice A' L'.length c') ∧ rs L' = rs L ∧ RecO w' none w.heap.size 0 64 A' c' L' ∧ Below w.heap.size w w' := by
  obtain ⟨hBp, HF, A1, c1, A2, c2, HJ, HO, HU⟩ := h
  have HRc := HO.recs
  refine Fw.calls Try.func24 rfl Try.ntmps24 rfl ?_
  have HB := Below.refl (w.heap.size) w
  refine Fw.seq fun _ hK1 => ?_
  refine Fw.region ?_
  refine Fw.s (Fw.val_assign rfl) rfl ?_
  refine Fw.nil ?_
  refine hK1 _ _ ?_
  refine Fw.seq fun _ hK2 => ?_
  refine Fw.region ?_
  refine Fw.s (Fw.val_move rfl) rfl ?_
  refine Fw.s (Fw.val_nil rfl) rfl ?_
  refine Fw.s (Fw.val_fieldAddr fl62_1 rfl rfl) rfl ?_
  refine Fw.ld sc59 rfl ((HJ.low HB).cell 1) rfl ?_
  refine Fw.s (Fw.val_len Try.underlying59 rfl) rfl ?_
  refine Fw.makeG L.length sl59 zi64 rfl rfl rfl rfl (by omega) (by unfold maxLen; omega) HB.size rfl ?_
  intro w1 gN egN HN hb
  rw [Fw.made (cells := Rv.cells) (m := 2) ⟨0, [], none, 0⟩ (Value.cells (.agg #[.int .u8 0, .slice none 0 0])) rfl rfl] at HN
  have lgN : w.heap.size ≤ gN := by have := HB.size; omega
  replace HB := HB.trans (hb.mono HB.size)
  clear hb
  clear egN
  refine Fw.s (Fw.val_assign rfl) rfl ?_
  refine Fw.nil ?_
  refine hK2 _ _ (Fw.FC.sub (f' := [(3, _), (0, _)]) (.cons rfl (.cons rfl .nil)) ?_)
  refine Fw.seq fun _ hK3 => ?_
  refine Fw.seq fun _ hK4 => ?_
  refine Fw.region ?_
  refine Fw.s (Fw.val_move rfl) rfl ?_
  refine Fw.s (Fw.val_nil rfl) rfl ?_
  refine Fw.s (Fw.val_fieldAddr fl62_1 rfl rfl) rfl ?_
  refine Fw.ld sc59 rfl ((HJ.low HB).cell 1) rfl ?_
  refine Fw.s (Fw.val_len Try.underlying59 rfl) rfl ?_
  refine Fw.s (Fw.val_move rfl) rfl ?_
  refine Fw.nil ?_
  refine hK4 _ _ ?_
  refine Fw.block ?_
  have HD : Bods w1 none 0 ((List.replicate L.length (⟨0, [], none, 0⟩ : Rv)).take 0) := fun v hv => by cases hv
  refine Fw.loop (fun m_ f_ W_ => ∃ (k : Nat) (D_ : List Rv), m_ = L.length - k ∧ k ≤ L.length ∧ D_.length = L.length ∧ rs (D_.take k) = (rs L).take k ∧ W_.ownsRow w.heap.size 64 2 (.slice (some ⟨gN, 0, none⟩) L.length L.length) L.length (D_.flatMap Rv.cells) ∧ Bods W_ none 0 (D_.take k) ∧ Below (w.heap.size) w W_ ∧ f_ = [(17, .int .i64 k), (16, .int .i64 L.length), (15, .slice A1 L.length c1), (3, .slice (some ⟨gN, 0, none⟩) L.length L.length)]) ⟨_, _, ⟨0, (List.replicate L.length ⟨0, [], none, 0⟩), rfl, Nat.zero_le _, List.length_replicate, rfl, HN, HD, HB, rfl⟩, (.cons rfl (.cons rfl (.cons rfl (.cons rfl .nil))))⟩ ?_
  clear HN HD HB
  rintro m5_ _ w2 ⟨k, D_, hm5_, hkl, hDl, hDr, HN, HD, HB, rfl⟩
  refine Fw.seq fun _ hK6 => ?_
  refine Fw.region ?_
  refine Fw.s2 (Fw.val_bin rfl rfl Fw.b_lss) rfl ?_ ?_
  · rintro hk
    refine Fw.nil ?_
    refine hK6 _ _ ?_
    refine Fw.seq fun _ hK8 => ?_
    refine Fw.condT rfl ?_
    refine Fw.skip ?_
    refine hK8 _ _ ?_
    refine Fw.seq fun _ hK9 => ?_
    refine Fw.block ?_
    refine Fw.seq fun _ hK10 => ?_
    have hkn : k < L.length := by omega
    obtain ⟨ad, b_, o_, hA, hadd, HE⟩ := Fw.rdAt Rv.len (by decide) (HRc.low HB).1 k hkn
    refine Fw.region ?_
    refine Fw.s (Fw.val_move rfl) rfl ?_
    refine Fw.s (Fw.val_indexR Try.underlying59 sz64 rfl hA rfl rfl hkn hadd) rfl ?_
    refine Fw.ldA ag64 rfl (HE) rfl rfl ?_
    refine Fw.alloc ze64 rfl ?_
    intro w3 gXv egXv HXv hb
    have n_gN : gN < gXv := by have := (HN.lt gN rfl).2; omega
    have lgXv : w.heap.size ≤ gXv := by have := HB.size; omega
    clear HE
    replace HN := own_below HN hb (Nat.le_refl _)
    replace HD := HD.low hb (Nat.zero_le _)
    replace HB := HB.trans (hb.mono HB.size)
    clear hb
    clear egXv
    refine Fw.s (Fw.val_assign rfl) rfl ?_
    refine Fw.storeW sz64 rfl rfl HXv rfl rfl (by exact Fw.oneCells rfl) ?_
    intro w4 N_ hc
    replace HN := own_to HN hc (fun g_ h_ e_ => by simp at h_; omega)
    replace HD := HD.kf (Kf.box (B := 0) HXv hc (Nat.zero_le _)) (by decide)
    replace HB := HB.trans (hc.below (B := w.heap.size) (fun k e => by omega) HB.size)
    clear hc
    clear HXv
    have HXv := N_
    clear N_
    refine Fw.nil ?_
    refine hK10 _ _ ?_
    refine Fw.region ?_
    refine Fw.s (Fw.val_move rfl) rfl ?_
    refine Fw.s (Fw.val_move rfl) rfl ?_
    refine Fw.ldA ag64 rfl (Fw.rdBlk HXv) rfl rfl ?_
    refine Fw.call cf21 rfl rfl (clone_any _ L[k].k L[k].A L[k].b L[k].c ((HRc.low HB).at k hkn) (by have := hbig _ (List.getElem_mem hkn); omega)) ?_
    rintro e_ w5 ⟨A25, c25, rfl, HC, hb⟩
    refine ⟨_, rfl, ?_⟩
    replace HN := own_below HN hb (Nat.le_refl _)
    replace HD := HD.low hb (Nat.zero_le _)
    replace HXv := HXv.low hb
    replace HB := HB.trans (hb.mono HB.size)
    clear hb
    refine Fw.s (Fw.val_indexR Try.underlying59 sz64 rfl rfl rfl rfl hkn (Fw.add00 gN (k * 2))) rfl ?_
    have HAt := Fw.At.open_ (i := k) Rv.len (show k < D_.length by omega) (by rw [hDl]; exact HN)
    have HAt0 := HAt
    clear HN
    refine Fw.storeIA Rv.len sz64 rfl rfl rfl HAt rfl (by exact Fw.oneCells rfl) ?_
    intro w6 N_ hc
    replace HD := HD.kf (Kf.chg (B := 0) (ts := [64]) hc (hc.below (fun k e => Nat.zero_le _) (Nat.zero_le _)) (fun k t cs fr hk_ e_ => .inl (by obtain ⟨cur, hcur⟩ := HAt0.blk; subst e_; unfold Blk at hcur; rw [hcur] at hk_; injection hk_ with hk_; injection hk_ with _ hk_ _; subst hk_; simp))) (by decide)
    replace HXv := HXv.chg hc (by omega)
    replace HC := own_to HC hc (fun g_ h_ e_ => by obtain ⟨cur, hcur⟩ := HAt0.blk; exact own_ne HC hcur (by decide) (by rw [h_, e_]))
    replace HB := HB.trans (hc.below (B := w.heap.size) (fun k e => by omega) HB.size)
    clear hc
    clear HAt
    have HAt := N_
    clear N_
    refine Fw.nil ?_
    refine Fw.X_blockN ?_
    refine hK9 _ _ (Fw.FC.sub (f' := [(17, _), (16, _), (15, _), (3, _)]) (.cons rfl (.cons rfl (.cons rfl (.cons rfl .nil)))) ?_)
    refine Fw.region ?_
    refine Fw.s (Fw.val_bin rfl rfl (Fw.b_add (Fw.i64_ok (by omega)))) rfl ?_
    refine Fw.s (Fw.val_move rfl) rfl ?_
    refine Fw.nil ?_
    have HN := Fw.At.close' (⟨L[k].k, L[k].b, A25, c25⟩ : Rv) HAt
    rw [hDl] at HN
    replace HD := HD.snoc (v := (⟨L[k].k, L[k].b, A25, c25⟩ : Rv)) (Bod.new (B := 0) (g := none) HC (fun k e => by cases e))
    rw [← set_take (x := (⟨L[k].k, L[k].b, A25, c25⟩ : Rv)) (by omega)] at HD
    refine Fw.roundEnd _ _ (by omega) ⟨k + 1, D_.set k (⟨L[k].k, L[k].b, A25, c25⟩ : Rv), rfl, hkn, by rw [List.length_set]; exact hDl, by rw [set_take (by omega), rs_append, hDr, ← rs_take, ← rs_take, rs_snoc L k hkn]; rfl, HN, HD, HB, rfl⟩ (.cons rfl (.cons rfl (.cons rfl (.cons rfl .nil))))
  · rintro hk
    refine Fw.nil ?_
    refine hK6 _ _ ?_
    refine Fw.seq fun _ hK13 => ?_
    refine Fw.condF rfl ?_
    refine Fw.exit ?_
    refine Fw.X_exit ?_
    refine Fw.X_exit ?_
    refine Fw.X_block ?_
    refine hK3 _ _ ?_
    refine Fw.seq fun _ hK14 => ?_
    refine Fw.region ?_
    refine Fw.s (Fw.val_move rfl) rfl ?_
    refine Fw.s (Fw.val_assign rfl) rfl ?_
    refine Fw.nil ?_
    refine hK14 _ _ ?_
    refine Fw.ret ?_
    refine Fw.ret_ [.tmp 2] [_] Try.results24 (.tmp rfl .nil) ?_
    obtain rfl : k = L.length := by omega
    rw [List.take_of_length_le (by rw [hDl]; exact Nat.le_refl _)] at hDr HD
    rw [List.take_of_length_le (by rw [rs_len]; exact Nat.le_refl _)] at hDr
    rw [← hDl] at HN ⊢
    exact ⟨D_, _, _, rfl, hDr, ⟨HN, HD⟩, HB⟩

end Go.Proofs.Ytgpdodhegacndaa
