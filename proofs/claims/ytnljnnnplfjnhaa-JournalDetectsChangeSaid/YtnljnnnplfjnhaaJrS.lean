/- Layer 20: the law JournalSurvivesPowerFailure. -/
import Derived.Test.YtnljnnnplfjnhaaJrR
namespace Go.Proofs.Ytnljnnnplfjnhaa
set_option linter.unusedSimpArgs false
set_option linter.unusedVariables false
open Go.RowKit

theorem St.cut1 (D : List Int) : St.cut ⟨D, D.length, false⟩ 0 0 = ⟨D, D.length, true⟩ := by
  have hk : St.kept ⟨D, D.length, false⟩ 0 = D.length := by unfold St.kept; simp
  unfold St.cut
  rw [if_neg (fun h => by cases h), hk, if_neg (Nat.lt_irrefl _), List.take_length]
theorem FileAt.to {w w' : World} {B p : Nat} {g : Option Nat} {t t' : St.T} (h : FileAt w B p g t) (hto : FileTo w w' B p g t') : ∃ g', FileAt w' B p g' t' ∧ Below B w w' := by
  obtain ⟨g', hf, hc, _⟩ := hto
  exact ⟨g', hf, (Kf.file h hc).low⟩

set_option maxRecDepth 100000 in
set_option maxHeartbeats 1000000 in
theorem survives_any (w : World) (A : Option Addr) (l : List Rv) (c : Nat) (h : Recs w A l) (hcap : l.length ≤ c) (hlm : l.length ≤ maxLen) (hbig : ∀ v ∈ l, v.b.length ≤ 140737488355328) (hok : ∀ v ∈ l, v.r.ok) (A2 : Option Addr) (l2 : List Bool) (c2 : Nat) (hB2 : Rd w A2 (l2.map .bool)) (c0 c1 : Int) (hc0 : 0 ≤ c0 ∧ c0 ≤ 65535) : Calls Try.prog 9 #[.slice A l.length c, .slice A2 l2.length c2, .agg #[.int .u16 c0, .int .u16 c1]] w fun e_ w' => e_ = .returned (.bool true) ∧ Below w.heap.size w w' := by
  refine Fw.calls Try.func9 rfl Try.ntmps9 rfl ?_
  have HB := Below.refl (w.heap.size) w
  refine Fw.seq fun _ hK1 => ?_
  refine Fw.region ?_
  refine Fw.box rfl rfl ?_
  intro w1 gXc egXc HXc hb
  have lgXc : w.heap.size ≤ gXc := by have := HB.size; omega
  replace HB := HB.trans (hb.mono HB.size)
  clear hb
  clear egXc
  refine Fw.s (Fw.val_assign rfl) rfl ?_
  refine Fw.nil ?_
  refine hK1 _ _ ?_
  refine Fw.seq fun _ hK2 => ?_
  refine Fw.seq fun _ hK3 => ?_
  refine Fw.region ?_
  refine Fw.call cf10 rfl rfl (alive_any _) ?_
  rintro e_ w2 ⟨rfl, hb⟩
  refine ⟨_, rfl, ?_⟩
  replace HXc := HXc.low hb
  replace HB := HB.trans (hb.mono HB.size)
  clear hb
  refine Fw.bT (by rfl) ?_
  refine Fw.s (Fw.val_not rfl) rfl ?_
  refine Fw.nil ?_
  refine hK3 _ _ ?_
  refine Fw.condF rfl ?_
  refine Fw.skip ?_
  refine hK2 _ _ ?_
  refine Fw.seq fun _ hK4 => ?_
  refine Fw.seq fun _ hK5 => ?_
  refine Fw.region ?_
  refine Fw.s (Fw.val_move rfl) rfl ?_
  refine Fw.call cf11 rfl rfl (jsmall_any _ A l c (h.low HB) hlm 30 (by decide) hbig) ?_
  rintro e_ w3 ⟨rfl, hb⟩
  refine ⟨_, rfl, ?_⟩
  replace HXc := HXc.low hb
  replace HB := HB.trans (hb.mono HB.size)
  clear hb
  refine Fw.b2 ?_ ?_
  · rintro hsm
    refine Fw.s (Fw.val_not rfl) rfl ?_
    refine Fw.nil ?_
    refine hK5 _ _ (Fw.FC.sub (f' := [(18, _), (5, _), (0, _), (1, _)]) (.cons rfl (.cons rfl (.cons rfl (.cons rfl .nil)))) ?_)
    refine Fw.condF rfl ?_
    refine Fw.skip ?_
    refine hK4 _ _ ?_
    refine Fw.seq fun _ hK6 => ?_
    obtain ⟨hl20, hbs⟩ := small_use hsm
    have hokl := okL_of hok hbs
    refine Fw.region ?_
    refine Fw.call cf18 rfl rfl (new_any _) ?_
    rintro e_ w4 ⟨rfl, HF, hb⟩
    refine ⟨_, rfl, ?_⟩
    have hXclt := HXc.lt
    obtain ⟨B, hBe⟩ : ∃ B, B = w3.heap.size := ⟨_, rfl⟩
    rw [← hBe] at HF ⊢
    have hBn : w.heap.size ≤ B := by rw [hBe]; exact HB.size
    replace HXc := HXc.low hb
    replace HB := HB.trans (hb.mono HB.size)
    clear hb
    have hXcB : gXc < B := by rw [hBe]; exact hXclt
    refine Fw.s (Fw.val_assign rfl) rfl ?_
    refine Fw.nil ?_
    refine hK6 _ _ ?_
    refine Fw.seq fun _ hK7 => ?_
    refine Fw.region ?_
    refine Fw.s (Fw.val_move rfl) rfl ?_
    refine Fw.call cf20 rfl rfl (open_any _ B B _ [] 0 HF (by simp; try omega) (by first | assumption | (intro x hx; cases hx))) ?_
    rintro e_ w5 ⟨p, g1, L, n, rfl, hV, HJ, hLn, hbB⟩
    refine ⟨_, rfl, ?_⟩
    replace HXc := HXc.below hbB hXcB
    replace HB := HB.trans (hbB.mono hBn)
    clear hbB HF
    refine Fw.s (Fw.val_move rfl) rfl ?_
    refine Fw.s (Fw.val_extract rfl rfl) rfl ?_
    refine Fw.s (Fw.val_extract rfl rfl) rfl ?_
    refine Fw.s (Fw.val_assign rfl) rfl ?_
    refine Fw.s (Fw.val_assign rfl) rfl ?_
    refine Fw.nil ?_
    refine hK7 _ _ (Fw.FC.sub (f' := [(9, _), (8, _), (7, _), (5, _), (0, _), (1, _)]) (.cons rfl (.cons rfl (.cons rfl (.cons rfl (.cons rfl (.cons rfl .nil)))))) ?_)
    refine Fw.seq fun _ hK8 => ?_
    refine Fw.seq fun _ hK9 => ?_
    refine Fw.region ?_
    refine Fw.s (Fw.val_move rfl) rfl ?_
    refine Fw.s (Fw.Val.F (Fw.val_bin rfl rfl Fw.b_neq) (by exact fun h_ => h_ rfl)) rfl ?_
    refine Fw.nil ?_
    refine hK9 _ _ ?_
    refine Fw.condF rfl ?_
    refine Fw.skip ?_
    refine hK8 _ _ ?_
    refine Fw.seq fun _ hK10 => ?_
    refine Fw.region ?_
    refine Fw.s (Fw.val_assign rfl) rfl ?_
    refine Fw.nil ?_
    refine hK10 _ _ ?_
    refine Fw.seq fun _ hK11 => ?_
    refine Fw.seq fun _ hK12 => ?_
    refine Fw.region ?_
    refine Fw.s (Fw.val_move rfl) rfl ?_
    refine Fw.s (Fw.val_len Try.underlying22 rfl) rfl ?_
    refine Fw.s (Fw.val_move rfl) rfl ?_
    refine Fw.nil ?_
    refine hK12 _ _ ?_
    refine Fw.block ?_
    obtain ⟨hLe, rfl⟩ := Jr.val_nil hV
    obtain rfl : L = [] := List.map_eq_nil_iff.1 hLe
    replace HJ : JAt w5 B p B g1 ⟨Jr.encs Jr.s0 (rs (l.take 0)), 0, false⟩ [] := HJ
    refine Fw.loop (fun m_ f_ W_ => ∃ (k : Nat) (g_ : Option Nat) (L_ : List Rv) (s_ : Nat) (N_ : Nat), m_ = l.length - k ∧ k ≤ l.length ∧ rs L_ = rs (l.take k) ∧ s_ ≤ k ∧ N_ = (Jr.encs Jr.s0 (rs (l.take s_))).length ∧ Blk W_ gXc 63 #[.int .u16 c0, .int .u16 c1] ∧ JAt W_ B p B g_ ⟨Jr.encs Jr.s0 (rs (l.take k)), N_, false⟩ L_ ∧ Below (w.heap.size) w W_ ∧ f_ = [(29, .int .i64 k), (28, .int .i64 l.length), (27, .slice A l.length c), (10, .int .i64 s_), (8, .pointer (some ⟨p, 0, none⟩)), (7, .pointer (some ⟨B, 0, none⟩)), (5, .pointer (some ⟨gXc, 0, none⟩)), (0, .slice A l.length c), (1, .slice A2 l2.length c2)]) ⟨_, _, ⟨0, g1, [], 0, 0, rfl, Nat.zero_le _, rfl, Nat.le_refl _, rfl, HXc, HJ, HB, rfl⟩, (.cons rfl (.cons rfl (.cons rfl (.cons rfl (.cons rfl (.cons rfl (.cons rfl (.cons rfl (.cons rfl .nil)))))))))⟩ ?_
    clear HXc HJ HB
    rintro m13_ _ w6 ⟨k, g_, L_, s_, N_, hm13_, hkl, hL, hsk, hN, HXc, HJ, HB, rfl⟩
    refine Fw.seq fun _ hK14 => ?_
    refine Fw.region ?_
    refine Fw.s2 (Fw.val_bin rfl rfl Fw.b_lss) rfl ?_ ?_
    · rintro hk
      refine Fw.nil ?_
      refine hK14 _ _ ?_
      refine Fw.seq fun _ hK16 => ?_
      refine Fw.condT rfl ?_
      refine Fw.skip ?_
      refine hK16 _ _ ?_
      refine Fw.seq fun _ hK17 => ?_
      refine Fw.block ?_
      refine Fw.seq fun _ hK18 => ?_
      have hkn : k < l.length := by omega
      have hbk := hbs _ (List.getElem_mem hkn)
      have hLl : L_.length = k := by rw [← rs_len, hL, rs_len, List.length_take]; omega
      have hen : (Jr.encs Jr.s0 (rs (l.take k))).length ≤ 246600 := Nat.le_trans (encs_le (fun v hv => hbs v (List.mem_of_mem_take hv)) Jr.s0) (by rw [List.length_take]; omega)
      have hen2 : (Jr.encs Jr.s0 (rs (l.take (k + 1)))).length ≤ 246600 := Nat.le_trans (encs_le (fun v hv => hbs v (List.mem_of_mem_take hv)) Jr.s0) (by rw [List.length_take]; omega)
      obtain ⟨ad, b_, o_, hA, hadd, HE⟩ := Fw.rdAt Rv.len (by decide) (h.low HB).1 k hkn
      refine Fw.region ?_
      refine Fw.s (Fw.val_move rfl) rfl ?_
      refine Fw.s (Fw.val_indexR Try.underlying22 sz28 rfl hA rfl rfl hkn hadd) rfl ?_
      refine Fw.ldA ag28 rfl (HE) rfl rfl ?_
      refine Fw.alloc ze28 rfl ?_
      intro w7 gXv egXv HXv hb
      have hBx : B ≤ gXv := by have := HJ.lt; omega
      have n_gXc_gXv : gXc < gXv := by have := HXc.lt; omega
      have lgXv : w.heap.size ≤ gXv := by have := HB.size; omega
      clear HE
      replace HXc := HXc.low hb
      replace HJ := HJ.low hb
      replace HB := HB.trans (hb.mono HB.size)
      clear hb
      clear egXv
      refine Fw.s (Fw.val_assign rfl) rfl ?_
      refine Fw.storeW sz28 rfl rfl HXv rfl rfl (by exact Fw.oneCells rfl) ?_
      intro w8 N_ hc
      replace HXc := HXc.chg hc (by omega)
      replace HJ := HJ.keep (Kf.box (B := B) (g := none) HXv hc hBx)
      replace HB := HB.trans (hc.below (B := w.heap.size) (fun k e => by omega) HB.size)
      clear hc
      clear HXv
      have HXv := N_
      clear N_
      refine Fw.nil ?_
      refine hK18 _ _ ?_
      refine Fw.seq fun _ hK20 => ?_
      refine Fw.seq fun _ hK21 => ?_
      refine Fw.region ?_
      refine Fw.s (Fw.val_move rfl) rfl ?_
      refine Fw.ldA ag28 rfl (Fw.rdBlk HXv) rfl rfl ?_
      refine Fw.call cf12 rfl rfl (jown_any _ l[k].k l[k].A l[k].b.length l[k].c) ?_
      rintro e_ w9 ⟨rfl, hb⟩
      refine ⟨_, rfl, ?_⟩
      replace HXc := HXc.low hb
      replace HJ := HJ.low hb
      replace HXv := HXv.low hb
      replace HB := HB.trans (hb.mono HB.size)
      clear hb
      refine Fw.call cf24 rfl rfl (jappend_any _ B p _ _ ⟨Jr.encs Jr.s0 (rs (l.take k)), N_, false⟩ L_ l[k].k l[k].A l[k].b l[k].c HJ (Bod.old (h.at k hkn) hBn HB) (by show (Jr.encs Jr.s0 (rs (l.take k))).length ≤ _; omega) (by omega)) ?_
      rintro e_ w10 ⟨g2, L2, rfl, HJ2, hL2, hk, hg2⟩
      refine ⟨_, rfl, ?_⟩
      replace HXc := HXc.kf hk (by decide) (by decide)
      replace HXv := HXv.kf hk (by decide) (by decide)
      replace HB := HB.trans (hk.low.mono hBn)
      clear hk HJ
      have HJ := HJ2
      clear HJ2
      obtain ⟨e1, e2, e3⟩ := Jr.ap_ok (D := Jr.encs Jr.s0 (rs (l.take k))) (n := N_) (s := Jr.sealF Jr.s0 (rs L_)) (r := ⟨l[k].k, l[k].b⟩) (by show l[k].b.length ≤ _; omega) (by have := Jr.one_le (s := Jr.sealF Jr.s0 (rs L_)) (r := ⟨l[k].k, l[k].b⟩) (by show l[k].b.length ≤ _; omega); omega)
      rw [e1]
      rw [e2, hL, ← show Jr.encs Jr.s0 (rs (l.take (k + 1))) = Jr.encs Jr.s0 (rs (l.take k)) ++ Jr.one (Jr.sealF Jr.s0 (rs (l.take k))) ⟨l[k].k, l[k].b⟩ by rw [rs_snoc l k hkn, Jr.encs_snoc]; rfl] at HJ
      rw [e3, hL, ← show rs (l.take (k + 1)) = rs (l.take k) ++ [(⟨l[k].k, l[k].b⟩ : Jr.R)] from rs_snoc l k hkn] at hL2
      refine Fw.s (Fw.Val.F (Fw.val_bin rfl rfl Fw.b_neq) (by exact fun h_ => h_ rfl)) rfl ?_
      refine Fw.nil ?_
      refine hK21 _ _ (Fw.FC.sub (f' := [(38, _), (11, _), (29, _), (28, _), (27, _), (10, _), (8, _), (7, _), (5, _), (0, _), (1, _)]) (.cons rfl (.cons rfl (.cons rfl (.cons rfl (.cons rfl (.cons rfl (.cons rfl (.cons rfl (.cons rfl (.cons rfl (.cons rfl .nil))))))))))) ?_)
      refine Fw.condF rfl ?_
      refine Fw.skip ?_
      refine hK20 _ _ ?_
      refine Fw.seq fun _ hK22 => ?_
      refine Fw.region ?_
      refine Fw.s (Fw.val_move rfl) rfl ?_
      refine Fw.s (Fw.val_move rfl) rfl ?_
      refine Fw.s (Fw.val_len Try.underlying62 rfl) rfl ?_
      refine Fw.s2 (Fw.val_bin rfl rfl Fw.b_lss) rfl ?_ ?_
      · rintro hk2_
        refine Fw.s (Fw.val_move rfl) rfl ?_
        refine Fw.gT (d := 43) rfl rfl ?_
        refine Fw.s (Fw.val_move rfl) rfl ?_
        refine Fw.gT (d := 43) rfl rfl ?_
        refine Fw.s (Fw.val_move rfl) rfl ?_
        have hk2 : k < l2.length := by omega
        obtain ⟨ad3, b3_, o3_, hA3, hadd3, HE3⟩ := Fw.rdAtM (hB2.low HB) k hk2
        refine Fw.gT (d := 43) rfl rfl ?_
        refine Fw.s (Fw.val_indexR Try.underlying62 sz4 rfl hA3 rfl rfl hk2 hadd3) rfl ?_
        refine Fw.gT (d := 43) rfl rfl ?_
        refine Fw.ld sc4 rfl (HE3) rfl ?_
        refine Fw.b2 ?_ ?_
        · rintro hsy
          refine Fw.s (Fw.val_pickT rfl rfl) rfl ?_
          refine Fw.nil ?_
          refine hK22 _ _ (Fw.FC.sub (f' := [(48, _), (47, _), (46, _), (45, _), (44, _), (11, _), (29, _), (28, _), (27, _), (10, _), (8, _), (7, _), (5, _), (0, _), (1, _)]) (.cons rfl (.cons rfl (.cons rfl (.cons rfl (.cons rfl (.cons rfl (.cons rfl (.cons rfl (.cons rfl (.cons rfl (.cons rfl (.cons rfl (.cons rfl (.cons rfl (.cons rfl .nil))))))))))))))) ?_)
          refine Fw.condT rfl ?_
          refine Fw.seq fun _ hK25 => ?_
          refine Fw.seq fun _ hK26 => ?_
          refine Fw.region ?_
          refine Fw.s (Fw.val_move rfl) rfl ?_
          refine Fw.call cf29 rfl rfl (jsync_any _ B p B _ ⟨Jr.encs Jr.s0 (rs (l.take (k + 1))), N_, false⟩ L2 HJ (by show (Jr.encs Jr.s0 (rs (l.take (k + 1)))).length ≤ _; omega)) ?_
          rintro e_ w11 ⟨g5, rfl, HJ5, hk, hg5⟩
          refine ⟨_, rfl, ?_⟩
          replace HXc := HXc.below hk.low hXcB
          replace HB := HB.trans (hk.low.mono hBn)
          clear hk HJ
          have HJ : JAt w11 B p B g5 ⟨Jr.encs Jr.s0 (rs (l.take (k + 1))), (Jr.encs Jr.s0 (rs (l.take (k + 1)))).length, false⟩ L2 := HJ5
          clear HJ5
          refine Fw.s (Fw.Val.F (Fw.val_bin rfl rfl Fw.b_neq) (by exact fun h_ => h_ rfl)) rfl ?_
          refine Fw.nil ?_
          refine hK26 _ _ ?_
          refine Fw.condF rfl ?_
          refine Fw.skip ?_
          refine hK25 _ _ ?_
          refine Fw.region ?_
          refine Fw.s (Fw.val_move rfl) rfl ?_
          refine Fw.s (Fw.val_bin rfl rfl (Fw.b_add (Fw.i64_ok (by omega)))) rfl ?_
          refine Fw.s (Fw.val_assign rfl) rfl ?_
          refine Fw.nil ?_
          refine Fw.X_blockN ?_
          refine hK17 _ _ (Fw.FC.sub (f' := [(10, _), (47, _), (46, _), (45, _), (44, _), (29, _), (28, _), (27, _), (8, _), (7, _), (5, _), (0, _), (1, _)]) (.cons rfl (.cons rfl (.cons rfl (.cons rfl (.cons rfl (.cons rfl (.cons rfl (.cons rfl (.cons rfl (.cons rfl (.cons rfl (.cons rfl (.cons rfl .nil))))))))))))) ?_)
          refine Fw.region ?_
          refine Fw.s (Fw.val_bin rfl rfl (Fw.b_add (Fw.i64_ok (by omega)))) rfl ?_
          refine Fw.s (Fw.val_move rfl) rfl ?_
          refine Fw.nil ?_
          refine Fw.roundEnd _ _ (by omega) ⟨k + 1, g5, L2, k + 1, (Jr.encs Jr.s0 (rs (l.take (k + 1)))).length, rfl, hkn, hL2, Nat.le_refl _, rfl, HXc, HJ, HB, rfl⟩ (.cons rfl (.cons rfl (.cons rfl (.cons rfl (.cons rfl (.cons rfl (.cons rfl (.cons rfl (.cons rfl .nil)))))))))
        · rintro hsy
          refine Fw.s (Fw.val_pickT rfl rfl) rfl ?_
          refine Fw.nil ?_
          refine hK22 _ _ (Fw.FC.sub (f' := [(48, _), (47, _), (46, _), (45, _), (44, _), (11, _), (29, _), (28, _), (27, _), (10, _), (8, _), (7, _), (5, _), (0, _), (1, _)]) (.cons rfl (.cons rfl (.cons rfl (.cons rfl (.cons rfl (.cons rfl (.cons rfl (.cons rfl (.cons rfl (.cons rfl (.cons rfl (.cons rfl (.cons rfl (.cons rfl (.cons rfl .nil))))))))))))))) ?_)
          refine Fw.condF rfl ?_
          refine Fw.skip ?_
          refine Fw.X_blockN ?_
          refine hK17 _ _ ?_
          refine Fw.region ?_
          refine Fw.s (Fw.val_bin rfl rfl (Fw.b_add (Fw.i64_ok (by omega)))) rfl ?_
          refine Fw.s (Fw.val_move rfl) rfl ?_
          refine Fw.nil ?_
          refine Fw.roundEnd _ _ (by omega) ⟨k + 1, g2, L2, s_, N_, rfl, hkn, hL2, by omega, hN, HXc, HJ, HB, rfl⟩ (.cons rfl (.cons rfl (.cons rfl (.cons rfl (.cons rfl (.cons rfl (.cons rfl (.cons rfl (.cons rfl .nil)))))))))
      · rintro hk2_
        refine Fw.s (Fw.val_move rfl) rfl ?_
        refine Fw.gF (d := 43) rfl rfl rfl rfl ?_
        refine Fw.gF (d := 43) rfl rfl rfl rfl ?_
        refine Fw.gF (d := 43) rfl rfl rfl rfl ?_
        refine Fw.gF (d := 43) rfl rfl rfl rfl ?_
        refine Fw.s (Fw.val_pickF rfl rfl) rfl ?_
        refine Fw.nil ?_
        refine hK22 _ _ ?_
        refine Fw.condF rfl ?_
        refine Fw.skip ?_
        refine Fw.X_blockN ?_
        refine hK17 _ _ (Fw.FC.sub (f' := [(47, _), (46, _), (45, _), (44, _), (29, _), (28, _), (27, _), (10, _), (8, _), (7, _), (5, _), (0, _), (1, _)]) (.cons rfl (.cons rfl (.cons rfl (.cons rfl (.cons rfl (.cons rfl (.cons rfl (.cons rfl (.cons rfl (.cons rfl (.cons rfl (.cons rfl (.cons rfl .nil))))))))))))) ?_)
        refine Fw.region ?_
        refine Fw.s (Fw.val_bin rfl rfl (Fw.b_add (Fw.i64_ok (by omega)))) rfl ?_
        refine Fw.s (Fw.val_move rfl) rfl ?_
        refine Fw.nil ?_
        refine Fw.roundEnd _ _ (by omega) ⟨k + 1, g2, L2, s_, N_, rfl, hkn, hL2, by omega, hN, HXc, HJ, HB, rfl⟩ (.cons rfl (.cons rfl (.cons rfl (.cons rfl (.cons rfl (.cons rfl (.cons rfl (.cons rfl (.cons rfl .nil)))))))))
    · rintro hk
      refine Fw.nil ?_
      refine hK14 _ _ ?_
      refine Fw.seq fun _ hK27 => ?_
      refine Fw.condF rfl ?_
      refine Fw.exit ?_
      refine Fw.X_exit ?_
      refine Fw.X_exit ?_
      refine Fw.X_block ?_
      refine hK11 _ _ ?_
      refine Fw.seq fun _ hK28 => ?_
      obtain rfl : k = l.length := by omega
      rw [List.take_length] at hL HJ
      have hen : (Jr.encs Jr.s0 (rs l)).length ≤ 246600 := Nat.le_trans (encs_le hbs Jr.s0) (by omega)
      have hNle : N_ ≤ (Jr.encs Jr.s0 (rs l)).length := by rw [hN, rs_take]; exact Jr.encs_take_le _ _ _
      have hEb : Ck.Bts (Jr.encs Jr.s0 (rs l)) := Jr.encs_bts fun r hr => (hokl r hr).1
      refine Fw.region ?_
      refine Fw.s (Fw.val_move rfl) rfl ?_
      refine Fw.s (Fw.val_indexP (m := 0) Try.underlying63 sz54 rfl rfl rfl (by decide) rfl) rfl ?_
      refine Fw.ld sc54 rfl (HXc.cell 0) rfl ?_
      refine Fw.s (Fw.val_conv Try.underlying54 Try.underlying3 rfl ((IntWalk.i64_in _ (by omega)))) rfl ?_
      refine Fw.s (Fw.val_indexP (m := 1) Try.underlying63 sz54 rfl rfl rfl (by decide) rfl) rfl ?_
      refine Fw.ld sc54 rfl (HXc.cell 1) rfl ?_
      refine Fw.s (Fw.val_conv Try.underlying54 Try.underlying5 rfl (rfl)) rfl ?_
      refine Fw.call cf28 rfl rfl (powerFail_any _ B B _ ⟨(Jr.encs Jr.s0 (rs l)), N_, false⟩ c0 (IntKind.u8.wrap c1) HJ.2.1 ⟨by show N_ ≤ (Jr.encs Jr.s0 (rs l)).length; omega, by show (Jr.encs Jr.s0 (rs l)).length ≤ _; omega⟩ (by omega)) ?_
      rintro e_ w12 ⟨rfl, hto⟩
      refine ⟨_, rfl, ?_⟩
      obtain ⟨D, hD1, hD2, hD3, hD4, hD5, hDbts⟩ := St.cut_near (Jr.encs Jr.s0 (rs l)) N_ c0 (IntKind.u8.wrap c1) (by omega) hEb
      rw [hD1] at hto
      obtain ⟨g3, HF3, hbB⟩ := FileAt.to HJ.2.1 hto
      replace HB := HB.trans (hbB.mono hBn)
      clear hbB hto
      have HF : FileAt w12 B B g3 ⟨D, D.length, true⟩ := HF3
      clear HF3
      refine Fw.nil ?_
      refine hK28 _ _ (Fw.FC.sub (f' := [(10, _), (7, _), (0, _)]) (.cons rfl (.cons rfl (.cons rfl .nil))) ?_)
      refine Fw.seq fun _ hK29 => ?_
      refine Fw.region ?_
      refine Fw.s (Fw.val_move rfl) rfl ?_
      refine Fw.call cf30 rfl rfl (powerOn_any _ B B _ ⟨D, D.length, true⟩ HF) ?_
      rintro e_ w13 ⟨rfl, hto⟩
      refine ⟨_, rfl, ?_⟩
      obtain ⟨g3, HF3, hbB⟩ := FileAt.to HF hto
      replace HB := HB.trans (hbB.mono hBn)
      clear hbB hto
      have HF : FileAt w13 B B g3 ⟨D, D.length, false⟩ := HF3
      clear HF3
      refine Fw.nil ?_
      refine hK29 _ _ ?_
      refine Fw.seq fun _ hK30 => ?_
      refine Fw.seq fun _ hK31 => ?_
      refine Fw.region ?_
      refine Fw.s (Fw.val_move rfl) rfl ?_
      refine Fw.nil ?_
      refine hK31 _ _ ?_
      refine Fw.block ?_
      have hRok : ∀ r ∈ rs l, r.ok ∧ r.b.length ≤ 8192 := fun r hr => ⟨(hokl r hr).1, by obtain ⟨v, hv, rfl⟩ := List.mem_map.1 hr; exact Nat.le_trans (hbs v hv) (by decide)⟩
      have hDbt : Ck.Bts D := hDbts
      have hP0 : ∀ M n, Jr.Val Jr.s0 D M n → ∃ i, i ≤ l.length ∧ M = (rs l).take i ∧ s_ ≤ i := fun M n hv => by
        obtain ⟨i, hi1, hi2⟩ := Jr.near_prefix M (rs l) Jr.s0 D n hRok hD2 hD4 hv
        rw [rs_len] at hi1
        subst hi2
        refine ⟨i, hi1, rfl, Jr.near_keeps hRok (by rw [rs_len]; omega) (by rw [rs_len]; exact hi1) ?_ hv⟩
        rw [← rs_take, ← hN, hD5]
        have hsp : rs l = rs (l.take s_) ++ rs (l.drop s_) := by rw [← rs_append, List.take_append_drop]
        rw [hsp, Jr.encs_append, hN, List.take_left]
      refine Fw.loop (fun m_ f_ W_ => ∃ (j : Nat) (h_ : Option Nat) (D_ : List Int) (q_ : Nat), m_ = 2 - j ∧ j ≤ 2 ∧ D_.length ≤ 1000000 ∧ Ck.Bts D_ ∧ (∀ M n, Jr.Val Jr.s0 D_ M n → ∃ i, i ≤ l.length ∧ M = (rs l).take i ∧ q_ ≤ i) ∧ FileAt W_ B B h_ ⟨D_, D_.length, false⟩ ∧ Below (w.heap.size) w W_ ∧ f_ = [(65, .int .i64 j), (10, .int .i64 q_), (7, .pointer (some ⟨B, 0, none⟩)), (0, .slice A l.length c)]) ⟨_, _, ⟨0, g3, D, s_, rfl, by omega, by omega, hDbt, hP0, HF, HB, rfl⟩, (.cons rfl (.cons rfl (.cons rfl (.cons rfl .nil))))⟩ ?_
      clear HF HB
      rintro m32_ _ w14 ⟨j, h_, D_, q_, hm32_, hj2, hDl, hDb, hP, HF, HB, rfl⟩
      refine Fw.seq fun _ hK33 => ?_
      refine Fw.region ?_
      refine Fw.s2 (Fw.val_bin rfl rfl Fw.b_lss) rfl ?_ ?_
      · rintro hj
        refine Fw.nil ?_
        refine hK33 _ _ ?_
        refine Fw.seq fun _ hK35 => ?_
        refine Fw.condT rfl ?_
        refine Fw.skip ?_
        refine hK35 _ _ ?_
        refine Fw.seq fun _ hK36 => ?_
        refine Fw.block ?_
        refine Fw.seq fun _ hK37 => ?_
        refine Fw.region ?_
        refine Fw.s (Fw.val_move rfl) rfl ?_
        refine Fw.call cf20 rfl rfl (open_any _ B B _ D_ D_.length HF ⟨Nat.le_refl _, by omega⟩ hDb) ?_
        rintro e_ w15 ⟨p, g1, L, n, rfl, hV, HJ, hLn, hbB⟩
        refine ⟨_, rfl, ?_⟩
        replace HB := HB.trans (hbB.mono hBn)
        clear hbB HF
        obtain ⟨i, hi1, hi2, hi3⟩ := hP _ _ hV
        have hLi : L.length = i := by rw [← rs_len, hi2, List.length_take, rs_len]; omega
        refine Fw.s (Fw.val_move rfl) rfl ?_
        refine Fw.s (Fw.val_extract rfl rfl) rfl ?_
        refine Fw.s (Fw.val_extract rfl rfl) rfl ?_
        refine Fw.s (Fw.val_assign rfl) rfl ?_
        refine Fw.s (Fw.val_assign rfl) rfl ?_
        refine Fw.nil ?_
        refine hK37 _ _ ?_
        refine Fw.seq fun _ hK38 => ?_
        refine Fw.seq fun _ hK39 => ?_
        refine Fw.region ?_
        refine Fw.s (Fw.val_move rfl) rfl ?_
        refine Fw.s (Fw.Val.F (Fw.val_bin rfl rfl Fw.b_neq) (by exact fun h_ => h_ rfl)) rfl ?_
        refine Fw.s (Fw.val_move rfl) rfl ?_
        refine Fw.gT (d := 74) rfl rfl ?_
        refine Fw.s (Fw.val_move rfl) rfl ?_
        refine Fw.gT (d := 74) rfl rfl ?_
        refine Fw.s (Fw.val_bin rfl rfl (Fw.b_nilP Try.underlying44)) rfl ?_
        refine Fw.s (Fw.val_pickF rfl rfl) rfl ?_
        refine Fw.nil ?_
        refine hK39 _ _ (Fw.FC.sub (f' := [(77, _), (76, _), (75, _), (8, _), (65, _), (10, _), (7, _), (0, _)]) (.cons rfl (.cons rfl (.cons rfl (.cons rfl (.cons rfl (.cons rfl (.cons rfl (.cons rfl .nil)))))))) ?_)
        refine Fw.condF rfl ?_
        refine Fw.skip ?_
        refine hK38 _ _ ?_
        refine Fw.seq fun _ hK40 => ?_
        refine Fw.region ?_
        refine Fw.s (Fw.val_move rfl) rfl ?_
        refine Fw.call cf23 rfl rfl (jall_any _ B p B _ _ L HJ (by omega) (recs_small hi2 (fun r hr => (hokl r (List.mem_of_mem_take hr)).2))) ?_
        rintro e_ w16 ⟨Q, AQ, cQ, rfl, hQ, HQ, hb⟩
        refine ⟨_, rfl, ?_⟩
        replace HJ := HJ.low hb
        replace HB := HB.trans (hb.mono HB.size)
        clear hb
        have hQl : Q.length = i := by rw [← rs_len, hQ, rs_len, hLi]
        have hQt : (l.take Q.length).length = Q.length := by rw [List.length_take]; omega
        refine Fw.s (Fw.val_assign rfl) rfl ?_
        refine Fw.nil ?_
        refine hK40 _ _ ?_
        refine Fw.seq fun _ hK41 => ?_
        refine Fw.seq fun _ hK42 => ?_
        refine Fw.region ?_
        refine Fw.s (Fw.val_move rfl) rfl ?_
        refine Fw.s (Fw.val_len Try.underlying22 rfl) rfl ?_
        refine Fw.s (Fw.val_move rfl) rfl ?_
        refine Fw.s (Fw.Val.F (Fw.val_bin rfl rfl Fw.b_lss) (by omega)) rfl ?_
        refine Fw.s (Fw.val_move rfl) rfl ?_
        refine Fw.gT (d := 84) rfl rfl ?_
        refine Fw.s (Fw.val_move rfl) rfl ?_
        refine Fw.gT (d := 84) rfl rfl ?_
        refine Fw.s (Fw.val_len Try.underlying22 rfl) rfl ?_
        refine Fw.gT (d := 84) rfl rfl ?_
        refine Fw.s (Fw.val_move rfl) rfl ?_
        refine Fw.gT (d := 84) rfl rfl ?_
        refine Fw.s (Fw.val_len Try.underlying22 rfl) rfl ?_
        refine Fw.gT (d := 84) rfl rfl ?_
        refine Fw.s (Fw.Val.F (Fw.val_bin rfl rfl Fw.b_gtr) (by omega)) rfl ?_
        refine Fw.s (Fw.val_pickF rfl rfl) rfl ?_
        refine Fw.s (Fw.val_move rfl) rfl ?_
        refine Fw.gT (d := 91) rfl rfl ?_
        refine Fw.s (Fw.val_move rfl) rfl ?_
        refine Fw.gT (d := 91) rfl rfl ?_
        refine Fw.s (Fw.val_move rfl) rfl ?_
        refine Fw.gT (d := 91) rfl rfl ?_
        refine Fw.s (Fw.val_move rfl) rfl ?_
        refine Fw.gT (d := 91) rfl rfl ?_
        refine Fw.s (Fw.val_len Try.underlying22 rfl) rfl ?_
        refine Fw.gT (d := 91) rfl rfl ?_
        refine Fw.s (Fw.val_sliceTo (m := Q.length) Try.underlying22 sz28 rfl rfl rfl (by omega)) rfl ?_
        refine Fw.gT (d := 91) rfl rfl ?_
        refine Fw.call cf22 rfl rfl (by have := jsame_any w16 AQ Q cQ A (l.take Q.length) c HQ.recs ((h.low HB).take _) (by unfold maxLen; omega) (rs_ok (P := fun r => Ck.Bts r.b) (fun r hr => by rw [hQ, hi2] at hr; exact (hokl r (List.mem_of_mem_take hr)).1.2)) (fun v hv => (hok v (List.mem_of_mem_take hv)).2); rw [hQt] at this; exact this) ?_
        rintro e_ w17 ⟨rfl, hb⟩
        refine ⟨_, rfl, ?_⟩
        replace HJ := HJ.low hb
        replace HQ := HQ.low hb (Nat.zero_le _)
        replace HB := HB.trans (hb.mono HB.size)
        clear hb
        refine Fw.bT (by exact decide_eq_true (by rw [hQ, hi2, rs_take, hQl])) ?_
        refine Fw.gT (d := 91) rfl rfl ?_
        refine Fw.s (Fw.val_not rfl) rfl ?_
        refine Fw.s (Fw.val_pickF rfl rfl) rfl ?_
        refine Fw.nil ?_
        refine hK42 _ _ (Fw.FC.sub (f' := [(99, _), (98, _), (97, _), (96, _), (95, _), (94, _), (93, _), (92, _), (89, _), (88, _), (87, _), (86, _), (85, _), (13, _), (76, _), (75, _), (65, _), (7, _), (0, _)]) (.cons rfl (.cons rfl (.cons rfl (.cons rfl (.cons rfl (.cons rfl (.cons rfl (.cons rfl (.cons rfl (.cons rfl (.cons rfl (.cons rfl (.cons rfl (.cons rfl (.cons rfl (.cons rfl (.cons rfl (.cons rfl (.cons rfl .nil))))))))))))))))))) ?_)
        refine Fw.condF rfl ?_
        refine Fw.skip ?_
        refine hK41 _ _ ?_
        refine Fw.seq fun _ hK43 => ?_
        refine Fw.region ?_
        refine Fw.s (Fw.val_move rfl) rfl ?_
        refine Fw.s (Fw.val_len Try.underlying22 rfl) rfl ?_
        refine Fw.s (Fw.val_assign rfl) rfl ?_
        refine Fw.nil ?_
        refine hK43 _ _ ?_
        refine Fw.seq fun _ hK44 => ?_
        refine Fw.region ?_
        refine Fw.s (Fw.val_move rfl) rfl ?_
        refine Fw.call cf28 rfl rfl (powerFail_any _ B B _ ⟨D_.take n, (D_.take n).length, false⟩ 0 0 HJ.2.1 ⟨Nat.le_refl _, by show (D_.take n).length ≤ _; rw [List.length_take]; omega⟩ (by decide)) ?_
        rintro e_ w18 ⟨rfl, hto⟩
        refine ⟨_, rfl, ?_⟩
        rw [St.cut1] at hto
        obtain ⟨g3, HF3, hbB⟩ := FileAt.to HJ.2.1 hto
        replace HB := HB.trans (hbB.mono hBn)
        clear hbB hto
        have HF : FileAt w18 B B g3 ⟨D_.take n, (D_.take n).length, true⟩ := HF3
        clear HF3
        refine Fw.nil ?_
        refine hK44 _ _ ?_
        refine Fw.region ?_
        refine Fw.s (Fw.val_move rfl) rfl ?_
        refine Fw.call cf30 rfl rfl (powerOn_any _ B B _ ⟨D_.take n, (D_.take n).length, true⟩ HF) ?_
        rintro e_ w19 ⟨rfl, hto⟩
        refine ⟨_, rfl, ?_⟩
        obtain ⟨g3, HF3, hbB⟩ := FileAt.to HF hto
        replace HB := HB.trans (hbB.mono hBn)
        clear hbB hto
        have HF : FileAt w19 B B g3 ⟨D_.take n, (D_.take n).length, false⟩ := HF3
        clear HF3
        refine Fw.nil ?_
        refine Fw.X_blockN ?_
        refine hK36 _ _ (Fw.FC.sub (f' := [(10, _), (98, _), (97, _), (96, _), (95, _), (94, _), (93, _), (92, _), (89, _), (88, _), (87, _), (86, _), (85, _), (76, _), (75, _), (65, _), (7, _), (0, _)]) (.cons rfl (.cons rfl (.cons rfl (.cons rfl (.cons rfl (.cons rfl (.cons rfl (.cons rfl (.cons rfl (.cons rfl (.cons rfl (.cons rfl (.cons rfl (.cons rfl (.cons rfl (.cons rfl (.cons rfl (.cons rfl .nil)))))))))))))))))) ?_)
        refine Fw.region ?_
        refine Fw.s (Fw.val_bin rfl rfl (Fw.b_add (Fw.i64_ok (by omega)))) rfl ?_
        refine Fw.s (Fw.val_move rfl) rfl ?_
        refine Fw.nil ?_
        have hP2 : ∀ M m, Jr.Val Jr.s0 (D_.take n) M m → ∃ i_, i_ ≤ l.length ∧ M = (rs l).take i_ ∧ Q.length ≤ i_ := fun M m hv => by
          obtain ⟨e1, _⟩ := hv.eq (b := []) (Jr.val_self hV)
          exact ⟨i, hi1, e1.trans hi2, by omega⟩
        refine Fw.roundEnd _ _ (by omega) ⟨j + 1, g3, D_.take n, Q.length, rfl, by omega, by rw [List.length_take]; omega, fun x hx => hDb x (List.mem_of_mem_take hx), hP2, HF, HB, rfl⟩ (.cons rfl (.cons rfl (.cons rfl (.cons rfl .nil))))
      · rintro hj
        refine Fw.nil ?_
        refine hK33 _ _ ?_
        refine Fw.seq fun _ hK45 => ?_
        refine Fw.condF rfl ?_
        refine Fw.exit ?_
        refine Fw.X_exit ?_
        refine Fw.X_exit ?_
        refine Fw.X_block ?_
        refine hK30 _ _ ?_
        refine Fw.seq fun _ hK46 => ?_
        refine Fw.region ?_
        refine Fw.s (Fw.val_assign rfl) rfl ?_
        refine Fw.nil ?_
        refine hK46 _ _ ?_
        refine Fw.ret ?_
        refine Fw.ret_ [.tmp 6] [_] Try.results9 (.tmp rfl .nil) ?_
        exact ⟨rfl, HB⟩
  · rintro hsm
    refine Fw.s (Fw.val_not rfl) rfl ?_
    refine Fw.nil ?_
    refine hK5 _ _ (Fw.FC.sub (f' := [(18, _), (5, _), (0, _), (1, _)]) (.cons rfl (.cons rfl (.cons rfl (.cons rfl .nil)))) ?_)
    refine Fw.condT rfl ?_
    refine Fw.seq fun _ hK47 => ?_
    refine Fw.region ?_
    refine Fw.s (Fw.val_assign rfl) rfl ?_
    refine Fw.nil ?_
    refine hK47 _ _ ?_
    refine Fw.ret ?_
    refine Fw.X_ret ?_
    refine Fw.ret_ [.tmp 6] [_] Try.results9 (.tmp rfl .nil) ?_
    exact ⟨rfl, HB⟩

end Go.Proofs.Ytnljnnnplfjnhaa
