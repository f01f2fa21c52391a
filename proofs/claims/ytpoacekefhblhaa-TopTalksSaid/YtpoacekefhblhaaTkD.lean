/- TopTalks: order, and the closure that visits. -/
import Derived.Test.YtpoacekefhblhaaTkO
import Derived.Test.YtpoacekefhblhaaGr
namespace Go.Proofs.Ytpoacekefhblhaa
set_option linter.unusedSimpArgs false
set_option linter.unusedVariables false
open Go.RowKit

set_option maxRecDepth 100000 in
set_option maxHeartbeats 1000000 in
theorem visit_any (w0 : World) (Tf : Option Addr) (fs : List Tk.Fo) (cf : Nat) (hf : Tk.FsAt w0 Tf fs) (hs : Tk.Sm fs) (hn : Tk.Nb fs) (hac : ∀ q, q < fs.length → ¬ Tk.Cyc (Tk.Ef fs) q) (gV gW gN gF gL : Nat) (bV : w0.heap.size ≤ gV) (bN : w0.heap.size ≤ gN) (bF : w0.heap.size ≤ gF) (bL : w0.heap.size ≤ gL) (n : Nat) : ∀ (w : World) (hB : Below w0.heap.size w0 w) (vs : List Bool) (lst : List Nat) (A : Option Addr) (c : Nat) (HV : Blk w gV 26 #[.slice (some ⟨gW, 0, none⟩) fs.length fs.length]) (HN : Blk w gN 56 #[.slice Tf fs.length cf]) (HF : Blk w gF 74 #[.func (.func 34) #[] #[.pointer (some ⟨gV, 0, none⟩), .pointer (some ⟨gN, 0, none⟩), .pointer (some ⟨gF, 0, none⟩), .pointer (some ⟨gL, 0, none⟩)]]) (HL : Blk w gL 42 #[.slice A lst.length c]) (HR : World.ownsRow w w0.heap.size 4 1 (.slice (some ⟨gW, 0, none⟩) fs.length fs.length) fs.length (vs.map .bool)) (HO : World.ownsRow w w0.heap.size 3 1 (.slice A lst.length c) lst.length (Tk.nats lst)) (q : Nat) (hq : q < fs.length) (hvq : vs[q]? = some false) (hcnt : Tk.cnt vs ≤ n) (hp : Tk.Pst fs vs lst) (ha : ∀ x : Nat, vs[x]? = some true → x ∉ lst → Tk.Rc (Tk.Ef fs) x q) (hsz : lst.length + Tk.cnt vs ≤ 1000), Calls Try.prog 34 #[.int .i64 (q : Int), .pointer (some ⟨gV, 0, none⟩), .pointer (some ⟨gN, 0, none⟩), .pointer (some ⟨gF, 0, none⟩), .pointer (some ⟨gL, 0, none⟩)] w fun e_ w' => e_ = .returned (.tuple #[]) ∧ ∃ vs' lst' A' c', Tk.Dfs fs vs lst vs' lst' ∧ q ∈ lst' ∧ Blk w' gV 26 #[.slice (some ⟨gW, 0, none⟩) fs.length fs.length] ∧ Blk w' gN 56 #[.slice Tf fs.length cf] ∧ Blk w' gF 74 #[.func (.func 34) #[] #[.pointer (some ⟨gV, 0, none⟩), .pointer (some ⟨gN, 0, none⟩), .pointer (some ⟨gF, 0, none⟩), .pointer (some ⟨gL, 0, none⟩)]] ∧ Blk w' gL 42 #[.slice A' lst'.length c'] ∧ World.ownsRow w' w0.heap.size 4 1 (.slice (some ⟨gW, 0, none⟩) fs.length fs.length) fs.length (vs'.map .bool) ∧ World.ownsRow w' w0.heap.size 3 1 (.slice A' lst'.length c') lst'.length (Tk.nats lst') ∧ Below w0.heap.size w w' := by
  induction n with
  | zero => intro w hB vs lst A c HV HN HF HL HR HO q hq hvq hcnt; have := Tk.cnt_pos hvq; omega
  | succ n ih =>
    intro w hB vs lst A c HV HN HF HL HR HO q hq hvq hcnt hp ha hsz
    have hBw : w0.heap.size ≤ w.heap.size := hB.size
    obtain ⟨curW, hWb, _, _, _, _, bW⟩ := Fw.own_at HR
    have n1 : gV ≠ gW := Blk.ne_ HV hWb (by decide)
    have n2 : gN ≠ gW := Blk.ne_ HN hWb (by decide)
    have n3 : gF ≠ gW := Blk.ne_ HF hWb (by decide)
    have n4 : gL ≠ gW := Blk.ne_ HL hWb (by decide)
    have n5 : gV ≠ gL := Blk.ne_ HV HL (by decide)
    have n6 : gN ≠ gL := Blk.ne_ HN HL (by decide)
    have n7 : gF ≠ gL := Blk.ne_ HF HL (by decide)
    clear hWb
    have hql : q < vs.length := by rw [hp.len]; exact hq
    refine Fw.calls Try.func34 rfl Try.ntmps34 rfl ?_
    have HB := Below.refl (w0.heap.size) w
    refine Fw.seq fun _ hK1 => ?_
    refine Fw.region ?_
    refine Fw.ld sc26 rfl (HV.cell 0) rfl ?_
    refine Fw.s (Fw.val_move rfl) rfl ?_
    have EW2 := True.intro
    refine Fw.s (Fw.val_indexR Try.underlying26 sz4 rfl rfl rfl rfl hq (by rw [Fw.add_flat, Nat.zero_add, Nat.mul_one])) rfl ?_
    refine Fw.storeR sz4 rfl rfl HR (by rw [List.length_map]; exact hql) rfl rfl ?_
    intro w1 N_ hc
    replace HV := HV.chg hc (by omega)
    replace HN := HN.chg hc (by omega)
    replace HF := HF.chg hc (by omega)
    replace HL := HL.chg hc (by omega)
    replace HO := Fw.own_toO HO HR (by decide) hc
    replace HB := HB.trans (hc.below (B := w0.heap.size) (fun k e => by omega) (Nat.le_trans hBw HB.size))
    clear hc
    clear HR EW2
    have HR := N_
    clear N_
    replace HR : World.ownsRow w1 w0.heap.size 4 1 (.slice (some ⟨gW, 0, none⟩) fs.length fs.length) fs.length ((vs.set q true).map .bool) := by rw [List.map_set]; exact HR
    refine Fw.nil ?_
    refine hK1 _ _ ?_
    refine Fw.seq fun _ hK4 => ?_
    refine Fw.seq fun _ hK5 => ?_
    have hf16 := hs.2 _ (List.getElem_mem hq)
    refine Fw.region ?_
    refine Fw.ld sc56 rfl (HN.cell 0) rfl ?_
    refine Fw.s (Fw.val_move rfl) rfl ?_
    obtain ⟨ad6, b6_, o6_, hA6, hadd6, HFc⟩ := Fw.rdAtM ((hf.low (hB.trans HB)).1) q hq
    refine Fw.s (Fw.val_indexR Try.underlying56 sz42 rfl hA6 rfl rfl hq hadd6) rfl ?_
    refine Fw.ld sc42 rfl (HFc) rfl ?_
    refine Fw.s (Fw.val_len Try.underlying42 rfl) rfl ?_
    refine Fw.s (Fw.val_move rfl) rfl ?_
    refine Fw.nil ?_
    refine hK5 _ _ (Fw.FC.sub (f' := [(16, _), (15, _), (14, _), (0, _), (1, _), (3, _), (4, _)]) (.cons rfl (.cons rfl (.cons rfl (.cons rfl (.cons rfl (.cons rfl (.cons rfl .nil))))))) ?_)
    refine Fw.block ?_
    refine Fw.loop (fun m_ f_ W_ => ∃ (j : Nat) (vs1 : List Bool) (ls1 : List Nat) (A1 : Option Addr) (c1 : Nat), m_ = fs[q].l.length - j ∧ j ≤ fs[q].l.length ∧ Tk.Dl fs q vs lst vs1 ls1 j ∧ Blk W_ gV 26 #[.slice (some ⟨gW, 0, none⟩) fs.length fs.length] ∧ Blk W_ gN 56 #[.slice Tf fs.length cf] ∧ Blk W_ gF 74 #[.func (.func 34) #[] #[.pointer (some ⟨gV, 0, none⟩), .pointer (some ⟨gN, 0, none⟩), .pointer (some ⟨gF, 0, none⟩), .pointer (some ⟨gL, 0, none⟩)]] ∧ Blk W_ gL 42 #[.slice A1 ls1.length c1] ∧ World.ownsRow W_ w0.heap.size 4 1 (.slice (some ⟨gW, 0, none⟩) fs.length fs.length) fs.length (vs1.map .bool) ∧ World.ownsRow W_ w0.heap.size 3 1 (.slice A1 ls1.length c1) ls1.length (Tk.nats ls1) ∧ Below (w0.heap.size) w W_ ∧ f_ = [(16, .int .i64 j), (15, .int .i64 fs[q].l.length), (14, .slice fs[q].A fs[q].l.length fs[q].c), (0, .int .i64 (q : Int)), (1, .pointer (some ⟨gV, 0, none⟩)), (3, .pointer (some ⟨gF, 0, none⟩)), (4, .pointer (some ⟨gL, 0, none⟩))]) ⟨_, _, ⟨0, vs.set q true, lst, A, c, rfl, Nat.zero_le _, Tk.Dl.start hp hvq ha, HV, HN, HF, HL, HR, HO, HB, rfl⟩, (.cons rfl (.cons rfl (.cons rfl (.cons rfl (.cons rfl (.cons rfl (.cons rfl .nil)))))))⟩ ?_
    clear HV HN HF HL HR HO HB
    rintro m8_ _ w2 ⟨j, vs1, ls1, A1, c1, hm8_, hj, hdl, HV, HN, HF, HL, HR, HO, HB, rfl⟩
    refine Fw.seq fun _ hK9 => ?_
    refine Fw.region ?_
    refine Fw.s2 (Fw.val_bin rfl rfl Fw.b_lss) rfl ?_ ?_
    · rintro hlt
      refine Fw.nil ?_
      refine hK9 _ _ ?_
      refine Fw.seq fun _ hK11 => ?_
      refine Fw.condT rfl ?_
      refine Fw.skip ?_
      refine hK11 _ _ ?_
      refine Fw.seq fun _ hK12 => ?_
      refine Fw.block ?_
      refine Fw.seq fun _ hK13 => ?_
      have hj2 : j < fs[q].l.length := by omega
      have hf1 : fs[q].l[j] < fs.length := hn _ (List.getElem_mem hq) _ (List.getElem_mem hj2)
      have hf2 : fs[q].l[j] < vs1.length := by rw [hdl.pst.len]; exact hf1
      have hf16 := hs.2 _ (List.getElem_mem hq)
      refine Fw.region ?_
      obtain ⟨ad14, b14_, o14_, hA14, hadd14, HFl⟩ := Fw.rdAtM ((hf.low (hB.trans HB)).2 _ (List.getElem_mem hq)) j hj2
      refine Fw.s (Fw.val_indexR Try.underlying42 sz3 rfl hA14 rfl rfl hj2 hadd14) rfl ?_
      refine Fw.ld sc3 rfl (HFl) rfl ?_
      refine Fw.s (Fw.val_assign rfl) rfl ?_
      refine Fw.nil ?_
      refine hK13 _ _ ?_
      refine Fw.seq fun _ hK16 => ?_
      refine Fw.region ?_
      refine Fw.ld sc26 rfl (HV.cell 0) rfl ?_
      refine Fw.s (Fw.val_move rfl) rfl ?_
      obtain ⟨ad17, b17_, o17_, hA17, hadd17, HRe⟩ := Fw.rdAtM (Rd.of_own HR) fs[q].l[j] hf2
      refine Fw.s (Fw.val_indexR Try.underlying26 sz4 rfl hA17 rfl rfl hf1 hadd17) rfl ?_
      refine Fw.ld sc4 rfl (HRe) rfl ?_
      refine Fw.b2 ?_ ?_
      · rintro hrt
        refine Fw.s (Fw.val_not rfl) rfl ?_
        refine Fw.nil ?_
        refine hK16 _ _ (Fw.FC.sub (f' := [(24, _), (7, _), (16, _), (15, _), (14, _), (0, _), (1, _), (3, _), (4, _)]) (.cons rfl (.cons rfl (.cons rfl (.cons rfl (.cons rfl (.cons rfl (.cons rfl (.cons rfl (.cons rfl .nil))))))))) ?_)
        refine Fw.condF rfl ?_
        refine Fw.skip ?_
        refine Fw.X_blockN ?_
        refine hK12 _ _ ?_
        refine Fw.region ?_
        refine Fw.s (Fw.val_bin rfl rfl (Fw.b_add (Fw.i64_ok (by omega)))) rfl ?_
        refine Fw.s (Fw.val_move rfl) rfl ?_
        refine Fw.nil ?_
        refine Fw.roundEnd _ _ (by omega) ⟨j + 1, vs1, ls1, A1, c1, rfl, by omega, hdl.seen (hac q hq) hq hj2 (by rw [List.getElem?_eq_getElem hf2, hrt]), HV, HN, HF, HL, HR, HO, HB, rfl⟩ (.cons rfl (.cons rfl (.cons rfl (.cons rfl (.cons rfl (.cons rfl (.cons rfl .nil)))))))
      · rintro hrt
        refine Fw.s (Fw.val_not rfl) rfl ?_
        refine Fw.nil ?_
        refine hK16 _ _ (Fw.FC.sub (f' := [(24, _), (7, _), (16, _), (15, _), (14, _), (0, _), (1, _), (3, _), (4, _)]) (.cons rfl (.cons rfl (.cons rfl (.cons rfl (.cons rfl (.cons rfl (.cons rfl (.cons rfl (.cons rfl .nil))))))))) ?_)
        refine Fw.condT rfl ?_
        refine Fw.region ?_
        refine Fw.ld sc74 rfl (HF.cell 0) rfl ?_
        refine Fw.s (Fw.val_move rfl) rfl ?_
        refine Fw.callV cf34 rfl rfl rfl rfl (ih _ (hB.trans HB) vs1 ls1 A1 c1 HV HN HF HL HR HO fs[q].l[j] hf1 (by rw [List.getElem?_eq_getElem hf2, hrt]) (by have := hdl.cn; omega) hdl.pst (hdl.pre hq hj2) (by have := hdl.sz; omega)) ?_
        rintro e_ w3 ⟨rfl, vs2, ls2, A2, c2, hdf, hm2, K1, K2, K3, K4, K5, K6, hb⟩
        refine ⟨_, rfl, ?_⟩
        replace HB := HB.trans hb
        clear hb HV HN HF HL HR HO
        have HV := K1
        have HN := K2
        have HF := K3
        have HL := K4
        have HR := K5
        have HO := K6
        clear K1 K2 K3 K4 K5 K6
        refine Fw.nil ?_
        refine Fw.X_blockN ?_
        refine hK12 _ _ ?_
        refine Fw.region ?_
        refine Fw.s (Fw.val_bin rfl rfl (Fw.b_add (Fw.i64_ok (by omega)))) rfl ?_
        refine Fw.s (Fw.val_move rfl) rfl ?_
        refine Fw.nil ?_
        refine Fw.roundEnd _ _ (by omega) ⟨j + 1, vs2, ls2, A2, c2, rfl, by omega, hdl.step hq hj2 hdf hm2, HV, HN, HF, HL, HR, HO, HB, rfl⟩ (.cons rfl (.cons rfl (.cons rfl (.cons rfl (.cons rfl (.cons rfl (.cons rfl .nil)))))))
    · rintro hlt
      refine Fw.nil ?_
      refine hK9 _ _ ?_
      refine Fw.seq fun _ hK19 => ?_
      refine Fw.condF rfl ?_
      refine Fw.exit ?_
      refine Fw.X_exit ?_
      refine Fw.X_exit ?_
      refine Fw.X_block ?_
      refine hK4 _ _ ?_
      have hdn := hdl.done hvq hq (by omega)
      have hszd := hdn.sz
      have hle : ls1.length ≤ 1000 := by have := hdl.sz; omega
      refine Fw.region ?_
      refine Fw.ld sc42 rfl (HL.cell 0) rfl ?_
      refine Fw.s (Fw.val_move rfl) rfl ?_
      refine Fw.buildSlice [_] sl42 rfl rfl (by exact Fw.allSz rfl) (by decide) rfl ?_
      intro w4 gS31 egS31 HS31 hb
      have n_gV_gS31 : gV < gS31 := by have := HV.lt; omega
      have n_gN_gS31 : gN < gS31 := by have := HN.lt; omega
      have n_gF_gS31 : gF < gS31 := by have := HF.lt; omega
      have n_gL_gS31 : gL < gS31 := by have := HL.lt; omega
      have lgS31 : w0.heap.size ≤ gS31 := by have := (Nat.le_trans hBw HB.size); omega
      replace HV := HV.low hb
      replace HN := HN.low hb
      replace HF := HF.low hb
      replace HL := HL.low hb
      replace HR := own_below HR hb (Nat.le_refl _)
      replace HO := own_below HO hb (Nat.le_refl _)
      replace HB := HB.trans (hb.mono (Nat.le_trans hBw HB.size))
      clear hb
      clear egS31
      refine Fw.append ((ls1 ++ [q]).length) (Tk.nats (ls1 ++ [q])) sl42 rfl rfl HO (show Rd _ _ [Value.int .i64 (q : Int)] from Fw.rdBlk HS31) rfl (Fw.oneCellsL rfl) (by unfold maxLen; omega) (Nat.le_trans hBw HB.size) (by simp) (by simp [Tk.nats]) rfl ?_
      intro A32 c32 w5 N_ hbb hc hrow
      replace HB := HB.trans hbb
      replace HV := HV.chg hc (fun e => own_ne_blk HO HV (by decide) e.symm)
      replace HN := HN.chg hc (fun e => own_ne_blk HO HN (by decide) e.symm)
      replace HF := HF.chg hc (fun e => own_ne_blk HO HF (by decide) e.symm)
      replace HL := HL.chg hc (fun e => own_ne_blk HO HL (by decide) e.symm)
      replace HR := Fw.own_toA HR HO (by decide) hc
      clear hbb hc hrow HO HS31
      have HO := N_
      clear N_
      refine Fw.store sz42 rfl rfl HL rfl rfl rfl ?_
      intro w6 N_ hc
      replace HV := HV.chg hc (by omega)
      replace HN := HN.chg hc (by omega)
      replace HF := HF.chg hc (by omega)
      replace HR := own_to HR hc (fun g_ h_ e_ => own_ne HR HL (by decide) (by rw [h_, e_]))
      replace HO := own_to HO hc (fun g_ h_ e_ => own_ne HO HL (by decide) (by rw [h_, e_]))
      replace HB := HB.trans (hc.below (B := w0.heap.size) (fun k e => by omega) (Nat.le_trans hBw HB.size))
      clear hc
      clear HL
      have HL := N_
      clear N_
      refine Fw.nil ?_
      refine Fw.end_ [] [] Try.results34 .nil ?_
      exact ⟨rfl, vs1, ls1 ++ [q], A32, c32, hdn, List.mem_append_right _ (List.mem_singleton.2 rfl), HV, HN, HF, HL, HR, HO, HB⟩

set_option maxRecDepth 100000 in
set_option maxHeartbeats 1000000 in
theorem order_any (w : World) (Tf : Option Addr) (fs : List Tk.Fo) (cf : Nat) (hf : Tk.FsAt w Tf fs) (hs : Tk.Sm fs) (hn : Tk.Nb fs) (hac : ∀ q, q < fs.length → ¬ Tk.Cyc (Tk.Ef fs) q) (q : Nat) (hq : q < fs.length) : Calls Try.prog 26 #[.slice Tf fs.length cf, .int .i64 (q : Int)] w fun e_ w' => ∃ A c lst, e_ = .returned (.slice A (lst : List Nat).length c) ∧ w'.ownsRow w.heap.size 3 1 (.slice A lst.length c) lst.length (Tk.nats lst) ∧ Tk.Po fs lst ∧ (∀ x ∈ lst, x < fs.length) ∧ lst.length ≤ fs.length ∧ q ∈ lst ∧ Below w.heap.size w w' := by
  refine Fw.calls Try.func26 rfl Try.ntmps26 rfl ?_
  have HB := Below.refl (w.heap.size) w
  have hs1 := hs.1
  have hB0 := Below.refl w.heap.size w
  refine Fw.seq fun _ hK1 => ?_
  refine Fw.region ?_
  refine Fw.box rfl rfl ?_
  intro w1 gN egN HN hb
  have lgN : w.heap.size ≤ gN := by have := HB.size; omega
  replace HB := HB.trans (hb.mono HB.size)
  clear hb
  clear egN
  refine Fw.s (Fw.val_assign rfl) rfl ?_
  refine Fw.nil ?_
  refine hK1 _ _ ?_
  refine Fw.seq fun _ hK2 => ?_
  refine Fw.region ?_
  refine Fw.alloc ze42 rfl ?_
  intro w2 gL egL HL hb
  have n_gN_gL : gN < gL := by have := HN.lt; omega
  have lgL : w.heap.size ≤ gL := by have := HB.size; omega
  replace HN := HN.low hb
  replace HB := HB.trans (hb.mono HB.size)
  clear hb
  clear egL
  refine Fw.nil ?_
  refine hK2 _ _ ?_
  refine Fw.seq fun _ hK3 => ?_
  refine Fw.region ?_
  refine Fw.ld sc56 rfl (HN.cell 0) rfl ?_
  refine Fw.s (Fw.val_len Try.underlying56 rfl) rfl ?_
  refine Fw.makeG fs.length sl26 zi4 rfl rfl rfl rfl (by omega) (by unfold maxLen; omega) HB.size rfl ?_
  intro w3 gR egR HR hb
  have n_gN_gR : gN < gR := by have := HN.lt; omega
  have n_gL_gR : gL < gR := by have := HL.lt; omega
  rw [Fw.made (cells := fun (x : Bool) => [Value.bool x]) (m := 1) false (Value.cells (.bool false)) rfl rfl] at HR
  have lgR : w.heap.size ≤ gR := by have := HB.size; omega
  replace HN := HN.low hb
  replace HL := HL.low hb
  replace HB := HB.trans (hb.mono HB.size)
  clear hb
  clear egR
  replace HR : w3.ownsRow w.heap.size 4 1 (.slice (some ⟨gR, 0, none⟩) fs.length fs.length) fs.length ((List.replicate fs.length false).map .bool) := by simpa [List.flatMap_replicate] using HR
  refine Fw.alloc ze26 rfl ?_
  intro w4 gV egV HV hb
  have n_gR_gV : gR < gV := by have := (HR.lt gR rfl).2; omega
  have n_gN_gV : gN < gV := by have := HN.lt; omega
  have n_gL_gV : gL < gV := by have := HL.lt; omega
  have lgV : w.heap.size ≤ gV := by have := HB.size; omega
  replace HN := HN.low hb
  replace HL := HL.low hb
  replace HR := own_below HR hb (Nat.le_refl _)
  replace HB := HB.trans (hb.mono HB.size)
  clear hb
  clear egV
  refine Fw.store sz26 rfl rfl HV rfl rfl rfl ?_
  intro w5 N_ hc
  replace HN := HN.chg hc (by omega)
  replace HL := HL.chg hc (by omega)
  replace HR := own_to HR hc (fun g_ h_ e_ => own_ne HR HV (by decide) (by rw [h_, e_]))
  replace HB := HB.trans (hc.below (B := w.heap.size) (fun k e => by omega) HB.size)
  clear hc
  clear HV
  have HV := N_
  clear N_
  refine Fw.nil ?_
  refine hK3 _ _ ?_
  refine Fw.seq fun _ hK4 => ?_
  refine Fw.region ?_
  refine Fw.alloc ze74 rfl ?_
  intro w6 gF egF HF hb
  have n_gN_gF : gN < gF := by have := HN.lt; omega
  have n_gL_gF : gL < gF := by have := HL.lt; omega
  have n_gV_gF : gV < gF := by have := HV.lt; omega
  have lgF : w.heap.size ≤ gF := by have := HB.size; omega
  replace HN := HN.low hb
  replace HL := HL.low hb
  replace HR := own_below HR hb (Nat.le_refl _)
  replace HV := HV.low hb
  replace HB := HB.trans (hb.mono HB.size)
  clear hb
  clear egF
  refine Fw.nil ?_
  refine hK4 _ _ ?_
  refine Fw.seq fun _ hK5 => ?_
  refine Fw.region ?_
  refine Fw.s (Fw.val_func rfl rfl) rfl ?_
  refine Fw.store sz74 rfl rfl HF rfl rfl rfl ?_
  intro w7 N_ hc
  replace HN := HN.chg hc (by omega)
  replace HL := HL.chg hc (by omega)
  replace HR := own_to HR hc (fun g_ h_ e_ => own_ne HR HF (by decide) (by rw [h_, e_]))
  replace HV := HV.chg hc (by omega)
  replace HB := HB.trans (hc.below (B := w.heap.size) (fun k e => by omega) HB.size)
  clear hc
  clear HF
  have HF := N_
  clear N_
  refine Fw.nil ?_
  refine hK5 _ _ (Fw.FC.sub (f' := [(7, _), (5, _), (1, _)]) (.cons rfl (.cons rfl (.cons rfl .nil))) ?_)
  refine Fw.seq fun _ hK6 => ?_
  have HO : w7.ownsRow w.heap.size 3 1 (.slice none 0 0) ([] : List Nat).length (Tk.nats []) := ⟨rfl, .inl ⟨rfl, rfl⟩⟩
  refine Fw.region ?_
  refine Fw.ld sc74 rfl (HF.cell 0) rfl ?_
  refine Fw.s (Fw.val_move rfl) rfl ?_
  refine Fw.callV cf34 rfl rfl rfl rfl (visit_any w Tf fs cf hf hs hn hac gV gR gN gF gL (by omega) (by omega) (by omega) (by omega) (Tk.cnt (List.replicate fs.length false)) _ HB (List.replicate fs.length false) [] none 0 HV HN HF HL HR HO q hq (by rw [List.getElem?_replicate, if_pos hq]) (Nat.le_refl _) (Tk.pst_start fs) (fun x h => absurd h Tk.rep_false) (by rw [Tk.cnt_rep]; simp; omega)) ?_
  rintro e_ w8 ⟨rfl, vs2, ls2, A2, c2, hdf, hm2, K1, K2, K3, K4, K5, K6, hb⟩
  refine ⟨_, rfl, ?_⟩
  replace HB := HB.trans hb
  clear hb HV HN HF HL HR HO
  have HV := K1
  have HN := K2
  have HF := K3
  have HL := K4
  have HR := K5
  have HO := K6
  clear K1 K2 K3 K4 K5 K6
  refine Fw.nil ?_
  refine hK6 _ _ ?_
  refine Fw.seq fun _ hK7 => ?_
  refine Fw.region ?_
  refine Fw.ld sc42 rfl (HL.cell 0) rfl ?_
  refine Fw.s (Fw.val_assign rfl) rfl ?_
  refine Fw.nil ?_
  refine hK7 _ _ (Fw.FC.sub (f' := [(4, _)]) (.cons rfl .nil) ?_)
  refine Fw.ret ?_
  refine Fw.ret_ [.tmp 4] [_] Try.results26 (.tmp rfl .nil) ?_
  have hsz := hdf.sz
  rw [Tk.cnt_rep] at hsz
  exact ⟨A2, c2, ls2, rfl, HO, hdf.pst.po, fun x hx => by have := hdf.pst.sub x hx; have := (List.getElem?_eq_some_iff.1 this).1; rw [hdf.pst.len] at this; exact this, by simp at hsz; omega, hm2, HB⟩

end Go.Proofs.Ytpoacekefhblhaa
