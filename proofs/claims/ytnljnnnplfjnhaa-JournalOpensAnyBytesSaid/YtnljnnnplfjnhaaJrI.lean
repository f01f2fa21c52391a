/- Layer 20: Sync, Checksum, Records. -/
import Derived.Test.YtnljnnnplfjnhaaJrH
namespace Go.Proofs.Ytnljnnnplfjnhaa
set_option linter.unusedSimpArgs false
set_option linter.unusedVariables false
open Go.RowKit

set_option maxRecDepth 100000 in
set_option maxHeartbeats 1000000 in
theorem jsync_any (w : World) (B p pf : Nat) (g : Option Nat) (t : St.T) (L : List Rv) (h : JAt w B p pf g t L) (hl : t.data.length ≤ 16777216) : Calls Try.prog 29 #[.pointer (some ⟨p, 0, none⟩)] w fun e_ w' => ∃ g', e_ = .returned (.int .i64 (St.syncE t)) ∧ JAt w' B p pf g' (St.sync t) L ∧ Kf B TS g w w' ∧ (g' = g ∨ ∃ k, g' = some k ∧ w.heap.size ≤ k) := by
  have h0 := h
  obtain ⟨hBp, HF, A1, c1, A2, c2, HJ, HO, HU⟩ := h
  refine Fw.calls Try.func29 rfl Try.ntmps29 rfl ?_
  refine Fw.seq fun _ hK1 => ?_
  refine Fw.region ?_
  refine Fw.s (Fw.val_assign rfl) rfl ?_
  refine Fw.nil ?_
  refine hK1 _ _ ?_
  refine Fw.seq fun _ hK2 => ?_
  refine Fw.region ?_
  refine Fw.s (Fw.val_move rfl) rfl ?_
  refine Fw.s (Fw.val_nil rfl) rfl ?_
  refine Fw.s (Fw.val_fieldAddr fl76_0 rfl rfl) rfl ?_
  refine Fw.ld sc41 rfl (HJ.cell 0) rfl ?_
  refine Fw.call cf39 rfl rfl (sync_any _ B pf g t HF hl) ?_
  rintro e_ w1 ⟨rfl, hto⟩
  refine ⟨_, rfl, ?_⟩
  refine Fw.s (Fw.val_assign rfl) rfl ?_
  refine Fw.nil ?_
  refine hK2 _ _ (Fw.FC.sub (f' := [(2, _)]) (.cons rfl .nil) ?_)
  refine Fw.ret ?_
  refine Fw.ret_ [.tmp 2] [_] Try.results29 (.tmp rfl .nil) ?_
  obtain ⟨g2, hj, hk, hg2⟩ := h0.file hto
  exact ⟨g2, rfl, hj, hk.ts (by decide), hg2⟩

namespace Jr
def ckB (l : List R) (n : Int) : Bool := decide (0 ≤ n ∧ n ≤ l.length)
def ckV (l : List R) (n : Int) : Int := if 0 ≤ n ∧ n ≤ l.length then sealF s0 (l.take n.toNat) else 0
end Jr
set_option maxRecDepth 100000 in
set_option maxHeartbeats 1000000 in
theorem jchecksum_any (w : World) (B p pf : Nat) (g : Option Nat) (t : St.T) (L : List Rv) (n : Int) (h : JAt w B p pf g t L) : Calls Try.prog 27 #[.pointer (some ⟨p, 0, none⟩), .int .i64 n] w fun e_ w' => e_ = .returned (.tuple #[.int .u64 (Jr.ckV (rs L) n), .bool (Jr.ckB (rs L) n)]) ∧ w = w' := by
  obtain ⟨hBp, HF, A1, c1, A2, c2, HJ, HO, HU⟩ := h
  refine Fw.calls Try.func27 rfl Try.ntmps27 rfl ?_
  refine Fw.seq fun _ hK1 => ?_
  refine Fw.region ?_
  refine Fw.s (Fw.val_assign rfl) rfl ?_
  refine Fw.s (Fw.val_assign rfl) rfl ?_
  refine Fw.nil ?_
  refine hK1 _ _ ?_
  refine Fw.seq fun _ hK2 => ?_
  refine Fw.seq fun _ hK3 => ?_
  refine Fw.region ?_
  refine Fw.s (Fw.val_move rfl) rfl ?_
  refine Fw.s2 (Fw.val_bin rfl rfl Fw.b_lss) rfl ?_ ?_
  · rintro hn1
    refine Fw.s (Fw.val_move rfl) rfl ?_
    refine Fw.gF (d := 8) rfl rfl rfl rfl ?_
    refine Fw.gF (d := 8) rfl rfl rfl rfl ?_
    refine Fw.gF (d := 8) rfl rfl rfl rfl ?_
    refine Fw.gF (d := 8) rfl rfl rfl rfl ?_
    refine Fw.gF (d := 8) rfl rfl rfl rfl ?_
    refine Fw.gF (d := 8) rfl rfl rfl rfl ?_
    refine Fw.gF (d := 8) rfl rfl rfl rfl ?_
    refine Fw.s (Fw.val_pickT rfl rfl) rfl ?_
    refine Fw.nil ?_
    refine hK3 _ _ (Fw.FC.sub (f' := [(16, _), (0, _), (1, _)]) (.cons rfl (.cons rfl (.cons rfl .nil))) ?_)
    refine Fw.condT rfl ?_
    refine Fw.seq fun _ hK5 => ?_
    refine Fw.region ?_
    refine Fw.s (Fw.val_assign rfl) rfl ?_
    refine Fw.s (Fw.val_assign rfl) rfl ?_
    refine Fw.nil ?_
    refine hK5 _ _ ?_
    refine Fw.ret ?_
    refine Fw.X_ret ?_
    refine Fw.ret_ [.tmp 4, .tmp 5] [_, _] Try.results27 (.tmp rfl (.tmp rfl .nil)) ?_
    have e1 : Jr.ckV (rs L) n = 0 := if_neg (by rw [rs_len]; omega)
    have e2 : Jr.ckB (rs L) n = false := decide_eq_false (by rw [rs_len]; omega)
    rw [e1, e2]
    exact ⟨rfl, rfl⟩
  · rintro hn1
    refine Fw.s (Fw.val_move rfl) rfl ?_
    refine Fw.gT (d := 8) rfl rfl ?_
    refine Fw.s (Fw.val_move rfl) rfl ?_
    refine Fw.gT (d := 8) rfl rfl ?_
    refine Fw.s (Fw.val_move rfl) rfl ?_
    refine Fw.gT (d := 8) rfl rfl ?_
    refine Fw.s (Fw.val_nil rfl) rfl ?_
    refine Fw.gT (d := 8) rfl rfl ?_
    refine Fw.s (Fw.val_fieldAddr fl76_1 rfl rfl) rfl ?_
    refine Fw.gT (d := 8) rfl rfl ?_
    refine Fw.ld sc25 rfl (HJ.cell 1) rfl ?_
    refine Fw.gT (d := 8) rfl rfl ?_
    refine Fw.s (Fw.val_len Try.underlying25 rfl) rfl ?_
    refine Fw.gT (d := 8) rfl rfl ?_
    refine Fw.s2 (Fw.val_bin rfl rfl Fw.b_gtr) rfl ?_ ?_
    · rintro hn2
      refine Fw.s (Fw.val_pickF rfl rfl) rfl ?_
      refine Fw.nil ?_
      refine hK3 _ _ (Fw.FC.sub (f' := [(16, _), (0, _), (1, _)]) (.cons rfl (.cons rfl (.cons rfl .nil))) ?_)
      refine Fw.condT rfl ?_
      refine Fw.seq fun _ hK7 => ?_
      refine Fw.region ?_
      refine Fw.s (Fw.val_assign rfl) rfl ?_
      refine Fw.s (Fw.val_assign rfl) rfl ?_
      refine Fw.nil ?_
      refine hK7 _ _ ?_
      refine Fw.ret ?_
      refine Fw.X_ret ?_
      refine Fw.ret_ [.tmp 4, .tmp 5] [_, _] Try.results27 (.tmp rfl (.tmp rfl .nil)) ?_
      have e1 : Jr.ckV (rs L) n = 0 := if_neg (by rw [rs_len]; omega)
      have e2 : Jr.ckB (rs L) n = false := decide_eq_false (by rw [rs_len]; omega)
      rw [e1, e2]
      exact ⟨rfl, rfl⟩
    · rintro hn2
      refine Fw.s (Fw.val_pickF rfl rfl) rfl ?_
      refine Fw.nil ?_
      refine hK3 _ _ (Fw.FC.sub (f' := [(16, _), (0, _), (1, _)]) (.cons rfl (.cons rfl (.cons rfl .nil))) ?_)
      refine Fw.condF rfl ?_
      refine Fw.skip ?_
      refine hK2 _ _ ?_
      refine Fw.seq fun _ hK8 => ?_
      obtain ⟨i, hi⟩ : ∃ i : Nat, n = i := ⟨n.toNat, by omega⟩
      have hlt : i < (Jr.sums (rs L)).length := by rw [Jr.sums_len, rs_len]; omega
      obtain ⟨ad, b_, o_, hA, hadd, HE⟩ := Fw.rdAtM (Rd.of_own HU) i hlt
      rw [Jr.sums_at] at HE
      refine Fw.region ?_
      refine Fw.s (Fw.val_move rfl) rfl ?_
      refine Fw.s (Fw.val_nil rfl) rfl ?_
      refine Fw.s (Fw.val_fieldAddr fl76_2 rfl rfl) rfl ?_
      refine Fw.ld sc74 rfl (HJ.cell 2) rfl ?_
      refine Fw.s (Fw.val_move rfl) rfl ?_
      refine Fw.s (Fw.val_indexR Try.underlying74 sz37 rfl hA rfl (by omega) hlt hadd) rfl ?_
      refine Fw.ld sc37 rfl (HE) rfl ?_
      refine Fw.s (Fw.val_assign rfl) rfl ?_
      refine Fw.s (Fw.val_assign rfl) rfl ?_
      refine Fw.nil ?_
      refine hK8 _ _ (Fw.FC.sub (f' := [(5, _), (4, _)]) (.cons rfl (.cons rfl .nil)) ?_)
      refine Fw.ret ?_
      refine Fw.ret_ [.tmp 4, .tmp 5] [_, _] Try.results27 (.tmp rfl (.tmp rfl .nil)) ?_
      have e1 : Jr.ckV (rs L) n = Jr.sealF Jr.s0 ((rs L).take i) := by unfold Jr.ckV; rw [if_pos (by rw [rs_len]; omega), show n.toNat = i by omega]
      have e2 : Jr.ckB (rs L) n = true := decide_eq_true (by rw [rs_len]; omega)
      rw [e1, e2]
      exact ⟨rfl, rfl⟩

theorem set_take {α : Type} {l : List α} {k : Nat} {x : α} (hk : k < l.length) : (l.set k x).take (k + 1) = l.take k ++ [x] := by
  rw [List.take_succ_eq_append_getElem (by rw [List.length_set]; exact hk), List.getElem_set_self, List.take_set_of_le (Nat.le_refl _)]
def Bods (w : World) (g : Option Nat) (D : Nat) (l : List Rv) : Prop := ∀ v ∈ l, Bod w g D v
theorem Bods.low {w w' : World} {g : Option Nat} {D : Nat} {l : List Rv} (h : Bods w g D l) (hb : Below w.heap.size w w') (hD : D ≤ w.heap.size) : Bods w' g D l := fun v hv => (h v hv).low hb hD
theorem Bods.kf {w w' : World} {g : Option Nat} {D : Nat} {ts : List TypeId} {l : List Rv} (h : Bods w g D l) (hk : Kf D ts g w w') (ht : ts.contains 5 = false) : Bods w' g D l := fun v hv => (h v hv).kf hk ht (.inl rfl)
theorem Bods.snoc {w : World} {g : Option Nat} {D : Nat} {l : List Rv} {v : Rv} (h : Bods w g D l) (hv : Bod w g D v) : Bods w g D (l ++ [v]) := fun x hx => by
  rcases List.mem_append.1 hx with h1 | h1
  · exact h x h1
  · simp at h1; subst h1; exact hv

set_option maxRecDepth 100000 in
set_option maxHeartbeats 1000000 in
theorem jrecords_any (w : World) (B p pf : Nat) (g : Option Nat) (t : St.T) (L : List Rv) (h : JAt w B p pf g t L) (hL : L.length ≤ 1000000) (hbig : ∀ v ∈ L, v.b.length ≤ 100000) : Calls Try.prog 31 #[.pointer (some ⟨p, 0, none⟩)] w fun e_ w' => ∃ (L' : List Rv) (A' : Option Addr) (c' : Nat), e_ = .returned (.slice A' L'.length c') ∧ rs L' = rs L ∧ RecO w' none w.heap.size 0 29 A' c' L' ∧ Below w.heap.size w w' := by
  obtain ⟨hBp, HF, A1, c1, A2, c2, HJ, HO, HU⟩ := h
  have HRc := HO.recs
  refine Fw.calls Try.func31 rfl Try.ntmps31 rfl ?_
  have HB := Below.refl (w.heap.size) w
  refine Fw.seq fun _ hK1 => ?_
  refine Fw.region ?_
  refine Fw.s (Fw.val_assign rfl) rfl ?_
  refine Fw.nil ?_
  refine hK1 _ _ ?_
  refine Fw.seq fun _ hK2 => ?_
  refine Fw.region ?_
  refine Fw.s (Fw.val_move rfl) rfl ?_
  refine Fw.s (Fw.val_nil rfl) rfl ?_
  refine Fw.s (Fw.val_fieldAddr fl76_1 rfl rfl) rfl ?_
  refine Fw.ld sc25 rfl ((HJ.low HB).cell 1) rfl ?_
  refine Fw.s (Fw.val_len Try.underlying25 rfl) rfl ?_
  refine Fw.makeG L.length sl25 zi29 rfl rfl rfl rfl (by omega) (by unfold maxLen; omega) HB.size rfl ?_
  intro w1 gN egN HN hb
  rw [Fw.made (cells := Rv.cells) (m := 2) ⟨0, [], none, 0⟩ (Value.cells (.agg #[.int .u8 0, .slice none 0 0])) rfl rfl] at HN
  have lgN : w.heap.size ≤ gN := by have := HB.size; omega
  replace HB := HB.trans (hb.mono HB.size)
  clear hb
  clear egN
  refine Fw.s (Fw.val_assign rfl) rfl ?_
  refine Fw.nil ?_
  refine hK2 _ _ (Fw.FC.sub (f' := [(3, _), (0, _)]) (.cons rfl (.cons rfl .nil)) ?_)
  refine Fw.seq fun _ hK3 => ?_
  refine Fw.seq fun _ hK4 => ?_
  refine Fw.region ?_
  refine Fw.s (Fw.val_move rfl) rfl ?_
  refine Fw.s (Fw.val_nil rfl) rfl ?_
  refine Fw.s (Fw.val_fieldAddr fl76_1 rfl rfl) rfl ?_
  refine Fw.ld sc25 rfl ((HJ.low HB).cell 1) rfl ?_
  refine Fw.s (Fw.val_len Try.underlying25 rfl) rfl ?_
  refine Fw.s (Fw.val_move rfl) rfl ?_
  refine Fw.nil ?_
  refine hK4 _ _ ?_
  refine Fw.block ?_
  have HD : Bods w1 none 0 ((List.replicate L.length (⟨0, [], none, 0⟩ : Rv)).take 0) := fun v hv => by cases hv
  refine Fw.loop (fun m_ f_ W_ => ∃ (k : Nat) (D_ : List Rv), m_ = L.length - k ∧ k ≤ L.length ∧ D_.length = L.length ∧ rs (D_.take k) = (rs L).take k ∧ W_.ownsRow w.heap.size 29 2 (.slice (some ⟨gN, 0, none⟩) L.length L.length) L.length (D_.flatMap Rv.cells) ∧ Bods W_ none 0 (D_.take k) ∧ Below (w.heap.size) w W_ ∧ f_ = [(17, .int .i64 k), (16, .int .i64 L.length), (15, .slice A1 L.length c1), (3, .slice (some ⟨gN, 0, none⟩) L.length L.length)]) ⟨_, _, ⟨0, (List.replicate L.length ⟨0, [], none, 0⟩), rfl, Nat.zero_le _, List.length_replicate, rfl, HN, HD, HB, rfl⟩, (.cons rfl (.cons rfl (.cons rfl (.cons rfl .nil))))⟩ ?_
  clear HN HD HB
  rintro m5_ _ w2 ⟨k, D_, hm5_, hkl, hDl, hDr, HN, HD, HB, rfl⟩
  refine Fw.seq fun _ hK6 => ?_
  refine Fw.region ?_
  refine Fw.s2 (Fw.val_bin rfl rfl Fw.b_lss) rfl ?_ ?_
  · rintro hk
    refine Fw.nil ?_
    refine hK6 _ _ ?_
    refine Fw.seq fun _ hK8 => ?_
    refine Fw.condT rfl ?_
    refine Fw.skip ?_
    refine hK8 _ _ ?_
    refine Fw.seq fun _ hK9 => ?_
    refine Fw.block ?_
    refine Fw.seq fun _ hK10 => ?_
    have hkn : k < L.length := by omega
    obtain ⟨ad, b_, o_, hA, hadd, HE⟩ := Fw.rdAt Rv.len (by decide) (HRc.low HB).1 k hkn
    refine Fw.region ?_
    refine Fw.s (Fw.val_move rfl) rfl ?_
    refine Fw.s (Fw.val_indexR Try.underlying25 sz29 rfl hA rfl rfl hkn hadd) rfl ?_
    refine Fw.ldA ag29 rfl (HE) rfl rfl ?_
    refine Fw.alloc ze29 rfl ?_
    intro w3 gXv egXv HXv hb
    have n_gN : gN < gXv := by have := (HN.lt gN rfl).2; omega
    have lgXv : w.heap.size ≤ gXv := by have := HB.size; omega
    clear HE
    replace HN := own_below HN hb (Nat.le_refl _)
    replace HD := HD.low hb (Nat.zero_le _)
    replace HB := HB.trans (hb.mono HB.size)
    clear hb
    clear egXv
    refine Fw.s (Fw.val_assign rfl) rfl ?_
    refine Fw.storeW sz29 rfl rfl HXv rfl rfl (by exact Fw.oneCells rfl) ?_
    intro w4 N_ hc
    replace HN := own_to HN hc (fun g_ h_ e_ => by simp at h_; omega)
    replace HD := HD.kf (Kf.box (B := 0) HXv hc (Nat.zero_le _)) (by decide)
    replace HB := HB.trans (hc.below (B := w.heap.size) (fun k e => by omega) HB.size)
    clear hc
    clear HXv
    have HXv := N_
    clear N_
    refine Fw.nil ?_
    refine hK10 _ _ ?_
    refine Fw.region ?_
    refine Fw.s (Fw.val_move rfl) rfl ?_
    refine Fw.s (Fw.val_move rfl) rfl ?_
    refine Fw.ldA ag29 rfl (Fw.rdBlk HXv) rfl rfl ?_
    refine Fw.call cf37 rfl rfl (clone_any _ L[k].k L[k].A L[k].b L[k].c ((HRc.low HB).at k hkn) (by have := hbig _ (List.getElem_mem hkn); omega)) ?_
    rintro e_ w5 ⟨A25, c25, rfl, HC, hb⟩
    refine ⟨_, rfl, ?_⟩
    replace HN := own_below HN hb (Nat.le_refl _)
    replace HD := HD.low hb (Nat.zero_le _)
    replace HXv := HXv.low hb
    replace HB := HB.trans (hb.mono HB.size)
    clear hb
    refine Fw.s (Fw.val_indexR Try.underlying25 sz29 rfl rfl rfl rfl hkn (Fw.add00 gN (k * 2))) rfl ?_
    have HAt := Fw.At.open_ (i := k) Rv.len (show k < D_.length by omega) (by rw [hDl]; exact HN)
    have HAt0 := HAt
    clear HN
    refine Fw.storeIA Rv.len sz29 rfl rfl rfl HAt rfl (by exact Fw.oneCells rfl) ?_
    intro w6 N_ hc
    replace HD := HD.kf (Kf.chg (B := 0) (ts := [29]) hc (hc.below (fun k e => Nat.zero_le _) (Nat.zero_le _)) (fun k t cs fr hk_ e_ => .inl (by obtain ⟨cur, hcur⟩ := HAt0.blk; subst e_; unfold Blk at hcur; rw [hcur] at hk_; injection hk_ with hk_; injection hk_ with _ hk_ _; subst hk_; simp))) (by decide)
    replace HXv := HXv.chg hc (by omega)
    replace HC := own_to HC hc (fun g_ h_ e_ => by obtain ⟨cur, hcur⟩ := HAt0.blk; exact own_ne HC hcur (by decide) (by rw [h_, e_]))
    replace HB := HB.trans (hc.below (B := w.heap.size) (fun k e => by omega) HB.size)
    clear hc
    clear HAt
    have HAt := N_
    clear N_
    refine Fw.nil ?_
    refine Fw.X_blockN ?_
    refine hK9 _ _ (Fw.FC.sub (f' := [(17, _), (16, _), (15, _), (3, _)]) (.cons rfl (.cons rfl (.cons rfl (.cons rfl .nil)))) ?_)
    refine Fw.region ?_
    refine Fw.s (Fw.val_bin rfl rfl (Fw.b_add (Fw.i64_ok (by omega)))) rfl ?_
    refine Fw.s (Fw.val_move rfl) rfl ?_
    refine Fw.nil ?_
    have HN := Fw.At.close' (⟨L[k].k, L[k].b, A25, c25⟩ : Rv) HAt
    rw [hDl] at HN
    replace HD := HD.snoc (v := (⟨L[k].k, L[k].b, A25, c25⟩ : Rv)) (Bod.new (B := 0) (g := none) HC (fun k e => by cases e))
    rw [← set_take (x := (⟨L[k].k, L[k].b, A25, c25⟩ : Rv)) (by omega)] at HD
    refine Fw.roundEnd _ _ (by omega) ⟨k + 1, D_.set k (⟨L[k].k, L[k].b, A25, c25⟩ : Rv), rfl, hkn, by rw [List.length_set]; exact hDl, by rw [set_take (by omega), rs_append, hDr, ← rs_take, ← rs_take, rs_snoc L k hkn]; rfl, HN, HD, HB, rfl⟩ (.cons rfl (.cons rfl (.cons rfl (.cons rfl .nil))))
  · rintro hk
    refine Fw.nil ?_
    refine hK6 _ _ ?_
    refine Fw.seq fun _ hK13 => ?_
    refine Fw.condF rfl ?_
    refine Fw.exit ?_
    refine Fw.X_exit ?_
    refine Fw.X_exit ?_
    refine Fw.X_block ?_
    refine hK3 _ _ ?_
    refine Fw.seq fun _ hK14 => ?_
    refine Fw.region ?_
    refine Fw.s (Fw.val_move rfl) rfl ?_
    refine Fw.s (Fw.val_assign rfl) rfl ?_
    refine Fw.nil ?_
    refine hK14 _ _ ?_
    refine Fw.ret ?_
    refine Fw.ret_ [.tmp 2] [_] Try.results31 (.tmp rfl .nil) ?_
    obtain rfl : k = L.length := by omega
    rw [List.take_of_length_le (by rw [hDl]; exact Nat.le_refl _)] at hDr HD
    rw [List.take_of_length_le (by rw [rs_len]; exact Nat.le_refl _)] at hDr
    rw [← hDl] at HN ⊢
    exact ⟨D_, _, _, rfl, hDr, ⟨HN, HD⟩, HB⟩

set_option maxRecDepth 100000 in
set_option maxHeartbeats 1000000 in
theorem jall_any (w : World) (B p pf : Nat) (g : Option Nat) (t : St.T) (L : List Rv) (h : JAt w B p pf g t L) (hL : L.length ≤ 1000000) (hbig : ∀ v ∈ L, v.b.length ≤ 100000) : Calls Try.prog 23 #[.pointer (some ⟨p, 0, none⟩)] w fun e_ w' => ∃ (L' : List Rv) (A' : Option Addr) (c' : Nat), e_ = .returned (.slice A' L'.length c') ∧ rs L' = rs L ∧ RecO w' none w.heap.size 0 28 A' c' L' ∧ Below w.heap.size w w' := by
  refine Fw.calls Try.func23 rfl Try.ntmps23 rfl ?_
  have HB := Below.refl (w.heap.size) w
  refine Fw.seq fun _ hK1 => ?_
  refine Fw.region ?_
  refine Fw.s (Fw.val_assign rfl) rfl ?_
  refine Fw.nil ?_
  refine hK1 _ _ ?_
  refine Fw.seq fun _ hK2 => ?_
  refine Fw.region ?_
  refine Fw.s (Fw.val_assign rfl) rfl ?_
  refine Fw.nil ?_
  refine hK2 _ _ ?_
  refine Fw.seq fun _ hK3 => ?_
  refine Fw.seq fun _ hK4 => ?_
  refine Fw.region ?_
  refine Fw.s (Fw.val_move rfl) rfl ?_
  refine Fw.call cf31 rfl rfl (jrecords_any _ B p pf g t L (h.low HB) hL hbig) ?_
  rintro e_ w1 ⟨M, AM, cM, rfl, hM, HL, hb_⟩
  refine ⟨_, rfl, ?_⟩
  replace HL := HL.up (show w.heap.size ≤ _ from HB.size) (Nat.le_refl 0)
  replace HB := HB.trans (hb_.mono HB.size)
  clear hb_
  have hMl : M.length = L.length := by rw [← rs_len, hM, rs_len]
  refine Fw.s (Fw.val_len Try.underlying25 rfl) rfl ?_
  refine Fw.s (Fw.val_move rfl) rfl ?_
  refine Fw.nil ?_
  refine hK4 _ _ ?_
  refine Fw.block ?_
  have HO : RecO w1 none w.heap.size 0 28 none 0 (M.take 0) := RecO.nil _ _ _ _ _
  refine Fw.loop (fun m_ f_ W_ => ∃ (k : Nat) (A_ : Option Addr) (c_ : Nat), m_ = M.length - k ∧ k ≤ M.length ∧ RecO W_ none w.heap.size 0 29 AM cM M ∧ RecO W_ none w.heap.size 0 28 A_ c_ (M.take k) ∧ Below (w.heap.size) w W_ ∧ f_ = [(9, .int .i64 k), (8, .int .i64 M.length), (7, .slice AM M.length cM), (3, .slice A_ (M.take k).length c_)]) ⟨_, _, ⟨0, none, 0, rfl, Nat.zero_le _, HL, HO, HB, rfl⟩, (.cons rfl (.cons rfl (.cons rfl (.cons rfl .nil))))⟩ ?_
  clear HL HO HB
  rintro m5_ _ w2 ⟨k, A_, c_, hm5_, hkl, HL, HO, HB, rfl⟩
  refine Fw.seq fun _ hK6 => ?_
  refine Fw.region ?_
  refine Fw.s2 (Fw.val_bin rfl rfl Fw.b_lss) rfl ?_ ?_
  · rintro hk
    refine Fw.nil ?_
    refine hK6 _ _ ?_
    refine Fw.seq fun _ hK8 => ?_
    refine Fw.condT rfl ?_
    refine Fw.skip ?_
    refine hK8 _ _ ?_
    refine Fw.seq fun _ hK9 => ?_
    refine Fw.block ?_
    refine Fw.seq fun _ hK10 => ?_
    have hkn : k < M.length := by omega
    obtain ⟨ad, b_, o_, hA, hadd, HE⟩ := Fw.rdAt Rv.len (by decide) HL.recs.1 k hkn
    refine Fw.region ?_
    refine Fw.s (Fw.val_indexR Try.underlying25 sz29 rfl hA rfl rfl hkn hadd) rfl ?_
    refine Fw.ldA ag29 rfl (HE) rfl rfl ?_
    refine Fw.alloc ze29 rfl ?_
    intro w3 gXv egXv HXv hb
    have hxl : ¬ some gXv = (Value.slice AM M.length cM).ownBlock := HL.out (by omega)
    have lgXv : w.heap.size ≤ gXv := by have := HB.size; omega
    clear HE
    replace HL := HL.low hb (Nat.zero_le _)
    replace HO := HO.low hb (Nat.zero_le _)
    replace HB := HB.trans (hb.mono HB.size)
    clear hb
    clear egXv
    refine Fw.storeW sz29 rfl rfl HXv rfl rfl (by exact Fw.oneCells rfl) ?_
    intro w4 N_ hc
    replace HL := HL.box HXv hc (Nat.zero_le _) (Nat.zero_le _) hxl (by decide)
    replace HO := HO.box HXv hc (Nat.zero_le _) (Nat.zero_le _) (HO.type HXv (by decide)) (by decide)
    replace HB := HB.trans (hc.below (B := w.heap.size) (fun k e => by omega) HB.size)
    clear hc
    clear HXv
    have HXv := N_
    clear N_
    refine Fw.nil ?_
    refine hK10 _ _ ?_
    refine Fw.region ?_
    refine Fw.s (Fw.val_move rfl) rfl ?_
    refine Fw.s (Fw.val_fieldAddr fl29_0 rfl rfl) rfl ?_
    refine Fw.ld sc5 rfl (HXv.cell 0) rfl ?_
    refine Fw.s (Fw.val_fieldAddr fl29_1 rfl rfl) rfl ?_
    refine Fw.ld sc26 rfl (HXv.cell 1) rfl ?_
    refine Fw.s (Fw.val_build (ps := [(0, _), (1, _)]) rfl (bu28_0_1 _ _ _ _)) rfl ?_
    refine Fw.buildSlice [_] sl22 rfl rfl (by exact Fw.allSz rfl) (by decide) rfl ?_
    intro w5 gS19 egS19 HS19 hb
    have n_gXv_gS19 : gXv < gS19 := by have := HXv.lt; omega
    have lgS19 : w.heap.size ≤ gS19 := by have := HB.size; omega
    replace HL := HL.low hb (Nat.zero_le _)
    replace HO := HO.low hb (Nat.zero_le _)
    replace HXv := HXv.low hb
    replace HB := HB.trans (hb.mono HB.size)
    clear hb
    clear egS19
    have htk : M.take (k + 1) = M.take k ++ [M[k]] := List.take_succ_eq_append_getElem hkn
    refine Fw.append (base := w.heap.size) (M.take (k + 1)).length ((M.take (k + 1)).flatMap Rv.cells) sl22 rfl rfl HO.1 (Fw.rdBlk HS19) rfl (Fw.oneCellsL rfl) (by rw [List.length_take]; unfold maxLen; omega) HB.size (by rw [htk, List.length_append]; rfl) (by rw [htk, List.flatMap_append]; rfl) rfl ?_
    intro A20 c20 w6 N_ hbb hc _
    rw [htk] at N_
    have HO2 := RecO.snoc HO (by decide) (HL.2 _ (List.getElem_mem hkn)) N_ hc (hbb.mono (Nat.zero_le _))
    replace HL := HL.kf (Kf.row (B := 0) (g := none) HO.1 hc (hbb.mono (Nat.zero_le _))) (by decide) (by decide) (by decide) (.inl rfl)
    replace HB := HB.trans hbb
    clear hbb hc HO N_
    have HO := HO2
    clear HO2
    rw [← htk] at HO
    refine Fw.s (Fw.val_assign rfl) rfl ?_
    refine Fw.nil ?_
    refine Fw.X_blockN ?_
    refine hK9 _ _ (Fw.FC.sub (f' := [(3, _), (9, _), (8, _), (7, _)]) (.cons rfl (.cons rfl (.cons rfl (.cons rfl .nil)))) ?_)
    refine Fw.region ?_
    refine Fw.s (Fw.val_bin rfl rfl (Fw.b_add (Fw.i64_ok (by omega)))) rfl ?_
    refine Fw.s (Fw.val_move rfl) rfl ?_
    refine Fw.nil ?_
    refine Fw.roundEnd _ _ (by omega) ⟨k + 1, A20, c20, rfl, hkn, HL, HO, HB, rfl⟩ (.cons rfl (.cons rfl (.cons rfl (.cons rfl .nil))))
  · rintro hk
    refine Fw.nil ?_
    refine hK6 _ _ ?_
    refine Fw.seq fun _ hK12 => ?_
    refine Fw.condF rfl ?_
    refine Fw.exit ?_
    refine Fw.X_exit ?_
    refine Fw.X_exit ?_
    refine Fw.X_block ?_
    refine hK3 _ _ ?_
    refine Fw.seq fun _ hK13 => ?_
    refine Fw.region ?_
    refine Fw.s (Fw.val_move rfl) rfl ?_
    refine Fw.s (Fw.val_assign rfl) rfl ?_
    refine Fw.nil ?_
    refine hK13 _ _ ?_
    refine Fw.ret ?_
    refine Fw.ret_ [.tmp 2] [_] Try.results23 (.tmp rfl .nil) ?_
    obtain rfl : k = M.length := by omega
    rw [List.take_length] at HO ⊢
    exact ⟨M, _, _, rfl, hM, HO, HB⟩

end Go.Proofs.Ytnljnnnplfjnhaa
