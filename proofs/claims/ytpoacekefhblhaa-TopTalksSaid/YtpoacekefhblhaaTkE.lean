/- TopTalks: MaxQuestions. -/
import Derived.Test.YtpoacekefhblhaaTkD
import Derived.Test.YtpoacekefhblhaaGj
namespace Go.Proofs.Ytpoacekefhblhaa
set_option linter.unusedSimpArgs false
set_option linter.unusedVariables false
open Go.RowKit

set_option maxRecDepth 100000 in
set_option maxHeartbeats 1000000 in
theorem maxq_any (w : World) (nm : ByteArray) (ver : Int) (Tq : Option Addr) (qs : List Tk.Qu) (cq : Nat) (hq : Tk.QsAt w Tq qs) (hql : qs.length ≤ 64) (ha : ∀ q ∈ qs, q.an.length ≤ 16) (hg : Tk.Good nm ver qs) (q : Nat) (hqq : q < qs.length) : Calls Try.prog 8 #[.agg #[.string nm, .int .i64 ver, .slice Tq qs.length cq], .int .i64 (q : Int)] w fun e_ w' => ∃ m : Nat, e_ = .returned (.tuple #[.int .i64 (m : Int), .int .i64 0]) ∧ Tk.Bd qs q m ∧ Below w.heap.size w w' := by
  refine Fw.calls Try.func8 rfl Try.ntmps8 rfl ?_
  have HB := Below.refl (w.heap.size) w
  have hgv := hg.1
  refine Fw.seq fun _ hK1 => ?_
  refine Fw.region ?_
  refine Fw.box rfl rfl ?_
  intro w1 gt egt Ht hb
  have lgt : w.heap.size ≤ gt := by have := HB.size; omega
  replace HB := HB.trans (hb.mono HB.size)
  clear hb
  clear egt
  refine Fw.s (Fw.val_assign rfl) rfl ?_
  refine Fw.s (Fw.val_assign rfl) rfl ?_
  refine Fw.nil ?_
  refine hK1 _ _ ?_
  refine Fw.seq fun _ hK2 => ?_
  refine Fw.seq fun _ hK3 => ?_
  refine Fw.region ?_
  refine Fw.ldA ag24 rfl (Fw.rdBlk Ht) rfl rfl ?_
  refine Fw.call cf20 rfl rfl (isValid_any _ nm ver Tq qs cq (by omega) (hq.low HB)) ?_
  rintro e_ w2 ⟨bv, rfl, hv, hb⟩
  refine ⟨_, rfl, ?_⟩
  replace Ht := Ht.low hb
  replace HB := HB.trans (hb.mono HB.size)
  clear hb
  refine Fw.bT (by exact hv.2 hgv) ?_
  refine Fw.s (Fw.val_not rfl) rfl ?_
  refine Fw.nil ?_
  refine hK3 _ _ ?_
  refine Fw.condF rfl ?_
  refine Fw.skip ?_
  refine hK2 _ _ ?_
  refine Fw.seq fun _ hK4 => ?_
  refine Fw.seq fun _ hK5 => ?_
  refine Fw.region ?_
  refine Fw.ldA ag24 rfl (Fw.rdBlk Ht) rfl rfl ?_
  refine Fw.s (Fw.val_move rfl) rfl ?_
  refine Fw.call cf25 rfl rfl (isQuestion_any _ nm ver Tq qs cq (q : Int)) ?_
  rintro e_ w3 ⟨bq, rfl, hqi, hb⟩
  refine ⟨_, rfl, ?_⟩
  replace Ht := Ht.low hb
  replace HB := HB.trans (hb.mono HB.size)
  clear hb
  refine Fw.bT (by exact hqi.2 (by omega)) ?_
  refine Fw.s (Fw.val_not rfl) rfl ?_
  refine Fw.nil ?_
  refine hK5 _ _ (Fw.FC.sub (f' := [(20, _), (2, _), (1, _)]) (.cons rfl (.cons rfl (.cons rfl .nil))) ?_)
  refine Fw.condF rfl ?_
  refine Fw.skip ?_
  refine hK4 _ _ ?_
  refine Fw.seq fun _ hK6 => ?_
  refine Fw.region ?_
  refine Fw.ldA ag24 rfl (Fw.rdBlk Ht) rfl rfl ?_
  refine Fw.call cf21 rfl rfl (followers_any _ nm ver Tq qs cq (hq.low HB) hql ha) ?_
  rintro e_ w4 ⟨Tf, cf, fs, rfl, HFs, hfol, hf16, hb⟩
  refine ⟨_, rfl, ?_⟩
  replace Ht := Ht.low hb
  replace HB := HB.trans (hb.mono HB.size)
  clear hb
  have hfl := hfol.1
  have hsm : Tk.Sm fs := ⟨by omega, hf16⟩
  have hnb := hgv.nb hfol
  have hac : ∀ q, q < fs.length → ¬ Tk.Cyc (Tk.Ef fs) q := by rw [hfol.eq, hfl]; exact hg.2.1
  refine Fw.s (Fw.val_assign rfl) rfl ?_
  refine Fw.nil ?_
  refine hK6 _ _ ?_
  refine Fw.seq fun _ hK7 => ?_
  refine Fw.seq fun _ hK8 => ?_
  refine Fw.region ?_
  refine Fw.s (Fw.val_move rfl) rfl ?_
  refine Fw.s (Fw.val_move rfl) rfl ?_
  refine Fw.buildSlice [_] sl42 rfl rfl (by exact Fw.allSz rfl) (by decide) rfl ?_
  intro w5 gS25 egS25 HS25 hb
  have n_gt_gS25 : gt < gS25 := by have := Ht.lt; omega
  have lgS25 : w.heap.size ≤ gS25 := by have := HB.size; omega
  replace Ht := Ht.low hb
  replace HFs := HFs.low hb
  replace HB := HB.trans (hb.mono HB.size)
  clear hb
  clear egS25
  refine Fw.call cf23 rfl rfl ((show Calls _ _ #[.slice Tf fs.length cf, .slice (some ⟨gS25, 0, none⟩) 1 1] _ _ from reachable_any _ Tf fs cf HFs hsm hnb (some ⟨gS25, 0, none⟩) [q] 1 (Fw.rdBlk HS25) (fun s hs => by rw [List.mem_singleton.1 hs]; omega) (by simp))) ?_
  rintro e_ w6 ⟨gR, cR, rs, rfl, hrl, hre, HR, hb⟩
  refine ⟨_, rfl, ?_⟩
  replace HR := own_base HR HB.size
  replace Ht := Ht.low hb
  replace HFs := HFs.low hb
  replace HS25 := HS25.low hb
  replace HB := HB.trans (hb.mono HB.size)
  clear hb
  clear HS25
  refine Fw.s (Fw.val_len Try.underlying26 rfl) rfl ?_
  refine Fw.s (Fw.val_move rfl) rfl ?_
  refine Fw.nil ?_
  refine hK8 _ _ (Fw.FC.sub (f' := [(28, _), (27, _), (26, _), (6, _), (1, _)]) (.cons rfl (.cons rfl (.cons rfl (.cons rfl (.cons rfl .nil))))) ?_)
  refine Fw.block ?_
  refine Fw.loop (fun m_ f_ W_ => ∃ (k : Nat), m_ = fs.length - k ∧ k ≤ fs.length ∧ Tk.FsAt W_ Tf fs ∧ World.ownsRow W_ w.heap.size 4 1 (.slice (some ⟨gR, 0, none⟩) fs.length cR) fs.length (rs.map .bool) ∧ Below (w.heap.size) w W_ ∧ f_ = [(28, .int .i64 k), (27, .int .i64 fs.length), (26, .slice (some ⟨gR, 0, none⟩) fs.length cR), (6, .slice Tf fs.length cf), (1, .int .i64 (q : Int))]) ⟨_, _, ⟨0, rfl, Nat.zero_le _, HFs, HR, HB, rfl⟩, (.cons rfl (.cons rfl (.cons rfl (.cons rfl (.cons rfl .nil)))))⟩ ?_
  clear HFs HR HB
  rintro m9_ _ w7 ⟨k, hm9_, hk, HFs, HR, HB, rfl⟩
  refine Fw.seq fun _ hK10 => ?_
  refine Fw.region ?_
  refine Fw.s2 (Fw.val_bin rfl rfl Fw.b_lss) rfl ?_ ?_
  · rintro hlt
    refine Fw.nil ?_
    refine hK10 _ _ ?_
    refine Fw.seq fun _ hK12 => ?_
    refine Fw.condT rfl ?_
    refine Fw.skip ?_
    refine hK12 _ _ ?_
    refine Fw.seq fun _ hK13 => ?_
    refine Fw.block ?_
    refine Fw.seq fun _ hK14 => ?_
    have hk2 : k < fs.length := by omega
    have hk3 : k < rs.length := by omega
    refine Fw.region ?_
    refine Fw.s (Fw.val_move rfl) rfl ?_
    obtain ⟨ad15, b15_, o15_, hA15, hadd15, HRe⟩ := Fw.rdAtM (Rd.of_own HR) k hk3
    refine Fw.s (Fw.val_indexR Try.underlying26 sz4 rfl hA15 rfl rfl hk2 hadd15) rfl ?_
    refine Fw.ld sc4 rfl (HRe) rfl ?_
    refine Fw.b2 ?_ ?_
    · rintro hrt
      refine Fw.s (Fw.val_assign rfl) rfl ?_
      refine Fw.s (Fw.val_assign rfl) rfl ?_
      refine Fw.nil ?_
      refine hK14 _ _ ?_
      refine Fw.seq fun _ hK17 => ?_
      refine Fw.region ?_
      refine Fw.s (Fw.val_move rfl) rfl ?_
      refine Fw.s (Fw.val_move rfl) rfl ?_
      refine Fw.gT (d := 34) rfl rfl ?_
      refine Fw.s (Fw.val_move rfl) rfl ?_
      refine Fw.gT (d := 34) rfl rfl ?_
      refine Fw.s (Fw.val_move rfl) rfl ?_
      refine Fw.gT (d := 34) rfl rfl ?_
      refine Fw.call cf22 rfl rfl (isCyclic_any _ Tf fs cf HFs hsm hnb k hk2) ?_
      rintro e_ w8 ⟨bc, rfl, hcy, hb⟩
      refine ⟨_, rfl, ?_⟩
      clear HRe
      replace HFs := HFs.low hb
      replace HR := own_below HR hb (Nat.le_refl _)
      replace HB := HB.trans (hb.mono HB.size)
      clear hb
      refine Fw.bF (by cases bc with | false => rfl | true => exact absurd (hcy.1 rfl) (hac k hk2)) ?_
      refine Fw.s (Fw.val_pickT rfl rfl) rfl ?_
      refine Fw.nil ?_
      refine hK17 _ _ (Fw.FC.sub (f' := [(38, _), (37, _), (36, _), (35, _), (28, _), (27, _), (26, _), (6, _), (1, _)]) (.cons rfl (.cons rfl (.cons rfl (.cons rfl (.cons rfl (.cons rfl (.cons rfl (.cons rfl (.cons rfl .nil))))))))) ?_)
      refine Fw.condF rfl ?_
      refine Fw.skip ?_
      refine Fw.X_blockN (id := 1) ?_
      refine hK13 _ _ ?_
      refine Fw.region ?_
      refine Fw.s (Fw.val_bin rfl rfl (Fw.b_add (Fw.i64_ok (by omega)))) rfl ?_
      refine Fw.s (Fw.val_move rfl) rfl ?_
      refine Fw.nil ?_
      refine Fw.roundEnd _ _ (by omega) ⟨k + 1, rfl, by omega, HFs, HR, HB, rfl⟩ (.cons rfl (.cons rfl (.cons rfl (.cons rfl (.cons rfl .nil)))))
    · rintro hrt
      refine Fw.s (Fw.val_assign rfl) rfl ?_
      refine Fw.s (Fw.val_assign rfl) rfl ?_
      refine Fw.nil ?_
      refine hK14 _ _ ?_
      refine Fw.seq fun _ hK18 => ?_
      refine Fw.region ?_
      refine Fw.s (Fw.val_move rfl) rfl ?_
      refine Fw.s (Fw.val_move rfl) rfl ?_
      refine Fw.gF (d := 34) rfl rfl rfl rfl ?_
      refine Fw.gF (d := 34) rfl rfl rfl rfl ?_
      refine Fw.gF (d := 34) rfl rfl rfl rfl ?_
      refine Fw.s (Fw.val_pickF rfl rfl) rfl ?_
      refine Fw.nil ?_
      refine hK18 _ _ (Fw.FC.sub (f' := [(38, _), (37, _), (36, _), (35, _), (28, _), (27, _), (26, _), (6, _), (1, _)]) (.cons rfl (.cons rfl (.cons rfl (.cons rfl (.cons rfl (.cons rfl (.cons rfl (.cons rfl (.cons rfl .nil))))))))) ?_)
      refine Fw.condF rfl ?_
      refine Fw.skip ?_
      refine Fw.X_blockN (id := 1) ?_
      refine hK13 _ _ ?_
      refine Fw.region ?_
      refine Fw.s (Fw.val_bin rfl rfl (Fw.b_add (Fw.i64_ok (by omega)))) rfl ?_
      refine Fw.s (Fw.val_move rfl) rfl ?_
      refine Fw.nil ?_
      refine Fw.roundEnd _ _ (by omega) ⟨k + 1, rfl, by omega, HFs, HR, HB, rfl⟩ (.cons rfl (.cons rfl (.cons rfl (.cons rfl (.cons rfl .nil)))))
  · rintro hlt
    refine Fw.nil ?_
    refine hK10 _ _ ?_
    refine Fw.seq fun _ hK19 => ?_
    refine Fw.condF rfl ?_
    refine Fw.exit ?_
    refine Fw.X_exit ?_
    refine Fw.X_exit ?_
    refine Fw.X_block ?_
    refine hK7 _ _ ?_
    refine Fw.seq fun _ hK20 => ?_
    have HFf := HFs
    have HBf := Below.refl w7.heap.size w7
    refine Fw.region ?_
    refine Fw.s (Fw.val_move rfl) rfl ?_
    refine Fw.s (Fw.val_len Try.underlying56 rfl) rfl ?_
    refine Fw.makeG fs.length sl42 zi3 rfl rfl rfl rfl (by omega) (by unfold maxLen; omega) HB.size rfl ?_
    intro w9 gG egG HG hb
    have bfG : w7.heap.size ≤ gG := by omega
    rw [Fw.made (cells := fun (x : Int) => [Value.int .i64 x]) (m := 1) (0 : Int) (Value.cells (.int .i64 0)) rfl rfl] at HG
    have lgG : w.heap.size ≤ gG := by have := HB.size; omega
    replace HFs := HFs.low hb
    replace HR := own_below HR hb (Nat.le_refl _)
    replace HBf := HBf.trans (hb.mono HBf.size)
    replace HB := HB.trans (hb.mono HB.size)
    clear hb
    clear egG
    replace HG : w9.ownsRow w.heap.size 3 1 (.slice (some ⟨gG, 0, none⟩) fs.length fs.length) fs.length (Tk.nats (List.replicate fs.length 0)) := by simpa [List.flatMap_replicate, Tk.nats] using HG
    refine Fw.s (Fw.val_assign rfl) rfl ?_
    refine Fw.nil ?_
    refine hK20 _ _ (Fw.FC.sub (f' := [(9, _), (6, _), (1, _)]) (.cons rfl (.cons rfl (.cons rfl .nil))) ?_)
    refine Fw.seq fun _ hK21 => ?_
    refine Fw.seq fun _ hK22 => ?_
    refine Fw.region ?_
    refine Fw.s (Fw.val_move rfl) rfl ?_
    refine Fw.s (Fw.val_move rfl) rfl ?_
    refine Fw.call cf26 rfl rfl (order_any _ Tf fs cf HFs hsm hnb hac q (by omega)) ?_
    rintro e_ w10 ⟨Al, cl, lst, rfl, HO, hpo, hlf, hll, hql, hb⟩
    refine ⟨_, rfl, ?_⟩
    have nAl : ∀ k, Al.map (·.block) = some k → gG < k := fun k e => by
      have h1_ := Fw.own_lo HO e
      have h2_ := (HG.lt gG rfl).2
      omega
    replace HO := own_base HO HB.size
    replace HFs := HFs.low hb
    replace HR := own_below HR hb (Nat.le_refl _)
    replace HBf := HBf.trans (hb.mono HBf.size)
    replace HG := own_below HG hb (Nat.le_refl _)
    replace HB := HB.trans (hb.mono HB.size)
    clear hb
    refine Fw.s (Fw.val_len Try.underlying42 rfl) rfl ?_
    refine Fw.s (Fw.val_move rfl) rfl ?_
    refine Fw.nil ?_
    refine hK22 _ _ ?_
    refine Fw.block ?_
    refine Fw.loop (fun m_ f_ W_ => ∃ (i : Nat) (gs : List Nat), m_ = lst.length - i ∧ i ≤ lst.length ∧ Tk.Gi fs lst gs i ∧ Below w7.heap.size w7 W_ ∧ World.ownsRow W_ w.heap.size 3 1 (.slice (some ⟨gG, 0, none⟩) fs.length fs.length) fs.length (Tk.nats gs) ∧ World.ownsRow W_ w.heap.size 3 1 (.slice Al lst.length cl) lst.length (Tk.nats lst) ∧ Below (w.heap.size) w W_ ∧ f_ = [(47, .int .i64 i), (46, .int .i64 lst.length), (45, .slice Al lst.length cl), (9, .slice (some ⟨gG, 0, none⟩) fs.length fs.length), (6, .slice Tf fs.length cf), (1, .int .i64 (q : Int))]) ⟨_, _, ⟨0, List.replicate fs.length 0, rfl, Nat.zero_le _, Tk.Gi.start fs lst, HBf, HG, HO, HB, rfl⟩, (.cons rfl (.cons rfl (.cons rfl (.cons rfl (.cons rfl (.cons rfl .nil))))))⟩ ?_
    clear HBf HG HO HB
    rintro m23_ _ w11 ⟨i, gs, hm23_, hi, hgi, HBf, HG, HO, HB, rfl⟩
    refine Fw.seq fun _ hK24 => ?_
    refine Fw.region ?_
    refine Fw.s2 (Fw.val_bin rfl rfl Fw.b_lss) rfl ?_ ?_
    · rintro hlt2
      refine Fw.nil ?_
      refine hK24 _ _ ?_
      refine Fw.seq fun _ hK26 => ?_
      refine Fw.condT rfl ?_
      refine Fw.skip ?_
      refine hK26 _ _ ?_
      refine Fw.seq fun _ hK27 => ?_
      refine Fw.block ?_
      refine Fw.seq fun _ hK28 => ?_
      have hi2 : i < lst.length := by omega
      have hx : lst[i] < fs.length := hlf _ (List.getElem_mem hi2)
      have hf16 := hsm.2 _ (List.getElem_mem hx)
      refine Fw.region ?_
      obtain ⟨ad29, b29_, o29_, hA29, hadd29, HLi⟩ := Fw.rdAtM (Rd.of_own HO) i hi2
      refine Fw.s (Fw.val_indexR Try.underlying42 sz3 rfl hA29 rfl rfl hi2 hadd29) rfl ?_
      refine Fw.ld sc3 rfl (HLi) rfl ?_
      refine Fw.s (Fw.val_assign rfl) rfl ?_
      refine Fw.nil ?_
      refine hK28 _ _ ?_
      refine Fw.seq fun _ hK31 => ?_
      refine Fw.seq fun _ hK32 => ?_
      refine Fw.region ?_
      refine Fw.s (Fw.val_move rfl) rfl ?_
      refine Fw.s (Fw.val_move rfl) rfl ?_
      obtain ⟨ad33, b33_, o33_, hA33, hadd33, HFc⟩ := Fw.rdAtM ((HFf.low HBf).1) lst[i] hx
      refine Fw.s (Fw.val_indexR Try.underlying56 sz42 rfl hA33 rfl rfl hx hadd33) rfl ?_
      refine Fw.ld sc42 rfl (HFc) rfl ?_
      refine Fw.s (Fw.val_len Try.underlying42 rfl) rfl ?_
      refine Fw.s (Fw.val_move rfl) rfl ?_
      refine Fw.nil ?_
      refine hK32 _ _ ?_
      refine Fw.block ?_
      refine Fw.loop (fun m_ f_ W_ => ∃ (j : Nat) (gs2 : List Nat), m_ = fs[lst[i]].l.length - j ∧ j ≤ fs[lst[i]].l.length ∧ Tk.Gj fs lst[i] gs gs2 i j ∧ Below w7.heap.size w7 W_ ∧ World.ownsRow W_ w.heap.size 3 1 (.slice (some ⟨gG, 0, none⟩) fs.length fs.length) fs.length (Tk.nats gs2) ∧ World.ownsRow W_ w.heap.size 3 1 (.slice Al lst.length cl) lst.length (Tk.nats lst) ∧ Below (w.heap.size) w W_ ∧ f_ = [(56, .int .i64 j), (55, .int .i64 fs[lst[i]].l.length), (54, .slice fs[lst[i]].A fs[lst[i]].l.length fs[lst[i]].c), (11, .int .i64 (lst[i] : Int)), (47, .int .i64 i), (46, .int .i64 lst.length), (45, .slice Al lst.length cl), (9, .slice (some ⟨gG, 0, none⟩) fs.length fs.length), (6, .slice Tf fs.length cf), (1, .int .i64 (q : Int))]) ⟨_, _, ⟨0, gs, rfl, Nat.zero_le _, Tk.Gj.start hgi _, HBf, HG, HO, HB, rfl⟩, (.cons rfl (.cons rfl (.cons rfl (.cons rfl (.cons rfl (.cons rfl (.cons rfl (.cons rfl (.cons rfl (.cons rfl .nil))))))))))⟩ ?_
      clear HBf HG HO HB
      rintro m35_ _ w12 ⟨j, gs2, hm35_, hj, hgj, HBf, HG, HO, HB, rfl⟩
      refine Fw.seq fun _ hK36 => ?_
      refine Fw.region ?_
      refine Fw.s2 (Fw.val_bin rfl rfl Fw.b_lss) rfl ?_ ?_
      · rintro hlt3
        refine Fw.nil ?_
        refine hK36 _ _ ?_
        refine Fw.seq fun _ hK38 => ?_
        refine Fw.condT rfl ?_
        refine Fw.skip ?_
        refine hK38 _ _ ?_
        refine Fw.seq fun _ hK39 => ?_
        refine Fw.block ?_
        refine Fw.seq fun _ hK40 => ?_
        have hj2 : j < fs[lst[i]].l.length := by omega
        have hr : fs[lst[i]].l[j] < fs.length := hnb _ (List.getElem_mem hx) _ (List.getElem_mem hj2)
        have hgl : gs2.length = fs.length := hgj.len.trans hgi.len
        have hx2 : lst[i] < gs2.length := by omega
        have hr2 : fs[lst[i]].l[j] < gs2.length := by omega
        have hne : fs[lst[i]].l[j] ≠ lst[i] := fun e => (hpo i hi2).1 (by rw [← e]; exact (hpo i hi2).2 _ ⟨hx, List.getElem_mem hj2⟩)
        refine Fw.region ?_
        obtain ⟨ad41, b41_, o41_, hA41, hadd41, HFl⟩ := Fw.rdAtM ((HFf.low HBf).2 _ (List.getElem_mem hx)) j hj2
        refine Fw.s (Fw.val_indexR Try.underlying42 sz3 rfl hA41 rfl rfl hj2 hadd41) rfl ?_
        refine Fw.ld sc3 rfl (HFl) rfl ?_
        refine Fw.s (Fw.val_assign rfl) rfl ?_
        refine Fw.nil ?_
        refine hK40 _ _ ?_
        obtain ⟨ada, ba_, oa_, hAa, hadda, HCa⟩ := Fw.rdAtM (Rd.of_own HG) lst[i] hx2
        rw [Tk.gv_at hx2] at HCa
        obtain ⟨adb, bb_, ob_, hAb, haddb, HCb⟩ := Fw.rdAtM (Rd.of_own HG) fs[lst[i]].l[j] hr2
        rw [Tk.gv_at hr2] at HCb
        refine Fw.regionL 12 (by kernel_rfl) ?_
        have R_HFl := HFl
        have R_HB := HB
        intro w13 hb
        have HS := hb
        clear HFl
        replace HBf := HBf.trans (hb.mono HBf.size)
        replace HG := own_below HG hb (Nat.le_refl _)
        replace HO := own_below HO hb (Nat.le_refl _)
        replace HB := HB.trans (hb.mono HB.size)
        clear hb
        refine Fw.lTk 0 rfl rfl (Fw.yV (Fw.val_move rfl)) rfl ?_
        refine Fw.lTk 1 rfl rfl (Fw.yV (Fw.val_move rfl)) rfl ?_
        refine Fw.lTk 2 rfl rfl (Fw.yV (Fw.val_move rfl)) rfl ?_
        refine Fw.lTk 3 rfl rfl (Fw.yV (Fw.val_move rfl)) rfl ?_
        refine Fw.lTk 4 rfl rfl (Fw.yV (Fw.val_indexR Try.underlying42 sz3 rfl hAa rfl rfl hx hadda)) rfl ?_
        refine Fw.lTk 5 rfl rfl (Fw.yV (Fw.hLd sc3 rfl (HCa))) rfl ?_
        refine Fw.lTk 6 rfl rfl (Fw.yV (Fw.val_move rfl)) rfl ?_
        refine Fw.lTk 7 rfl rfl (Fw.yV (Fw.val_move rfl)) rfl ?_
        refine Fw.lTk 8 rfl rfl (Fw.yV (Fw.val_indexR Try.underlying42 sz3 rfl hAb rfl rfl hr haddb)) rfl ?_
        refine Fw.lTk 9 rfl rfl (Fw.yV (Fw.hLd sc3 rfl (HCb))) rfl ?_
        refine Fw.lOp 10 rfl (by kernel_rfl) ?_
        refine Fw.s (Fw.val_max rfl rfl (Tk.nmax _ _)) rfl ?_
        refine Fw.lNext HS ?_
        have EW45 := True.intro
        refine Fw.lTk 11 rfl rfl (Fw.yV (Fw.val_indexR Try.underlying42 sz3 rfl rfl rfl rfl hx (by rw [Fw.add_flat, Nat.zero_add, Nat.mul_one]))) rfl ?_
        refine Fw.lLast rfl (by kernel_rfl) (by kernel_rfl) ?_
        refine Fw.storeR sz3 rfl rfl HG (by rw [Tk.nats_len]; exact hx2) rfl rfl ?_
        intro w14 N_ hc
        replace HBf := HBf.trans (hc.below (B := w7.heap.size) (fun k e => by omega) HBf.size)
        replace HO := own_to HO hc (fun g_ h_ e_ => by have := nAl _ h_; omega)
        replace HB := HB.trans (hc.below (B := w.heap.size) (fun k e => by omega) HB.size)
        clear hc
        clear HG EW45
        have HG := N_
        clear N_
        replace HG : World.ownsRow w14 w.heap.size 3 1 (.slice (some ⟨gG, 0, none⟩) fs.length fs.length) fs.length (Tk.nats (gs2.set lst[i] (max (Tk.gv gs2 lst[i]) (Tk.gv gs2 fs[lst[i]].l[j])))) := by rw [Tk.nats_set]; exact HG
        refine Fw.nil ?_
        refine Fw.X_blockN (id := 5) ?_
        refine hK39 _ _ (Fw.FC.sub (f' := [(56, _), (55, _), (54, _), (11, _), (47, _), (46, _), (45, _), (9, _), (6, _), (1, _)]) (.cons rfl (.cons rfl (.cons rfl (.cons rfl (.cons rfl (.cons rfl (.cons rfl (.cons rfl (.cons rfl (.cons rfl .nil)))))))))) ?_)
        refine Fw.region ?_
        refine Fw.s (Fw.val_bin rfl rfl (Fw.b_add (Fw.i64_ok (by omega)))) rfl ?_
        refine Fw.s (Fw.val_move rfl) rfl ?_
        refine Fw.nil ?_
        refine Fw.roundEnd _ _ (by omega) ⟨j + 1, gs2.set lst[i] (max (Tk.gv gs2 lst[i]) (Tk.gv gs2 fs[lst[i]].l[j])), rfl, by omega, hgj.step hgi hx hj2 hne, HBf, HG, HO, HB, rfl⟩ (.cons rfl (.cons rfl (.cons rfl (.cons rfl (.cons rfl (.cons rfl (.cons rfl (.cons rfl (.cons rfl (.cons rfl .nil))))))))))
      · rintro hlt3
        refine Fw.nil ?_
        refine hK36 _ _ ?_
        refine Fw.seq fun _ hK47 => ?_
        refine Fw.condF rfl ?_
        refine Fw.exit ?_
        refine Fw.X_exit ?_
        refine Fw.X_exit ?_
        refine Fw.X_block ?_
        refine hK31 _ _ ?_
        have hgl : gs2.length = fs.length := hgj.len.trans hgi.len
        have hx2 : lst[i] < gs2.length := by omega
        have hle := hgj.le
        refine Fw.region ?_
        refine Fw.s (Fw.val_move rfl) rfl ?_
        refine Fw.s (Fw.val_move rfl) rfl ?_
        obtain ⟨ad48, b48_, o48_, hA48, hadd48, HGx⟩ := Fw.rdAtM (Rd.of_own HG) lst[i] hx2
        refine Fw.s (Fw.val_indexR Try.underlying42 sz3 rfl hA48 rfl rfl hx hadd48) rfl ?_
        refine Fw.ld sc3 rfl (HGx) rfl ?_
        refine Fw.s (Fw.val_bin rfl rfl (Fw.b_add (Fw.i64_ok (by rw [Tk.gv_at hx2]; omega)))) rfl ?_
        have EW50 := True.intro
        refine Fw.s (Fw.val_indexR Try.underlying42 sz3 rfl rfl rfl rfl hx (by rw [Fw.add_flat, Nat.zero_add, Nat.mul_one])) rfl ?_
        refine Fw.storeR sz3 rfl rfl HG (by rw [Tk.nats_len]; exact hx2) rfl rfl ?_
        intro w15 N_ hc
        replace HBf := HBf.trans (hc.below (B := w7.heap.size) (fun k e => by omega) HBf.size)
        replace HO := own_to HO hc (fun g_ h_ e_ => by have := nAl _ h_; omega)
        replace HB := HB.trans (hc.below (B := w.heap.size) (fun k e => by omega) HB.size)
        clear hc
        clear HG EW50
        have HG := N_
        clear N_
        replace HG : World.ownsRow w15 w.heap.size 3 1 (.slice (some ⟨gG, 0, none⟩) fs.length fs.length) fs.length (Tk.nats (gs2.set lst[i] (Tk.gv gs2 lst[i] + 1))) := by rw [Tk.nats_set, ← Tk.gv_at hx2]; exact HG
        refine Fw.nil ?_
        refine Fw.X_blockN (id := 3) ?_
        refine hK27 _ _ (Fw.FC.sub (f' := [(47, _), (46, _), (45, _), (9, _), (6, _), (1, _)]) (.cons rfl (.cons rfl (.cons rfl (.cons rfl (.cons rfl (.cons rfl .nil)))))) ?_)
        refine Fw.region ?_
        refine Fw.s (Fw.val_bin rfl rfl (Fw.b_add (Fw.i64_ok (by omega)))) rfl ?_
        refine Fw.s (Fw.val_move rfl) rfl ?_
        refine Fw.nil ?_
        refine Fw.roundEnd _ _ (by omega) ⟨i + 1, gs2.set lst[i] (Tk.gv gs2 lst[i] + 1), rfl, by omega, hgj.done hgi hi2 hx (by omega) hpo, HBf, HG, HO, HB, rfl⟩ (.cons rfl (.cons rfl (.cons rfl (.cons rfl (.cons rfl (.cons rfl .nil))))))
    · rintro hlt2
      refine Fw.nil ?_
      refine hK24 _ _ ?_
      refine Fw.seq fun _ hK52 => ?_
      refine Fw.condF rfl ?_
      refine Fw.exit ?_
      refine Fw.X_exit ?_
      refine Fw.X_exit ?_
      refine Fw.X_block ?_
      refine hK21 _ _ ?_
      refine Fw.seq fun _ hK53 => ?_
      have hql2 : q < gs.length := by rw [hgi.len]; omega
      refine Fw.region ?_
      refine Fw.s (Fw.val_move rfl) rfl ?_
      refine Fw.s (Fw.val_move rfl) rfl ?_
      obtain ⟨ad54, b54_, o54_, hA54, hadd54, HGq⟩ := Fw.rdAtM (Rd.of_own HG) q hql2
      refine Fw.s (Fw.val_indexR Try.underlying42 sz3 rfl hA54 rfl rfl (by omega) hadd54) rfl ?_
      refine Fw.ld sc3 rfl (HGq) rfl ?_
      refine Fw.s (Fw.val_assign rfl) rfl ?_
      refine Fw.s (Fw.val_assign rfl) rfl ?_
      refine Fw.nil ?_
      refine hK53 _ _ (Fw.FC.sub (f' := [(5, _), (4, _)]) (.cons rfl (.cons rfl .nil)) ?_)
      refine Fw.ret ?_
      refine Fw.ret_ [.tmp 4, .tmp 5] [_, _] Try.results8 (.tmp rfl (.tmp rfl .nil)) ?_
      exact ⟨gs[q], rfl, by rw [Tk.gv_at hql2]; exact hgi.bd (by omega) hpo hql hfol, HB⟩

end Go.Proofs.Ytpoacekefhblhaa
