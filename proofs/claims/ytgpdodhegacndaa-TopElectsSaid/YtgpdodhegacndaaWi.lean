/- TopElects: the winner of an election. -/
import Derived.Test.YtgpdodhegacndaaVo
import Derived.Test.YtgpdodhegacndaaMk
namespace Go.Proofs.Ytgpdodhegacndaa
set_option linter.unusedSimpArgs false
set_option linter.unusedVariables false
open Go.RowKit

namespace El
def vc (p : Int × Int) : List Value := [.int .i64 p.1, .int .i64 p.2]
theorem vc_len (p : Int × Int) : (vc p).length = 2 := rfl
def ic (x : Int) : List Value := [.int .i64 x]
theorem flatMap_ic (l : List Int) : l.flatMap ic = l.map (.int .i64) := by induction l with
  | nil => rfl
  | cons a l ih => rw [List.flatMap_cons, ih]; rfl
/-- who voted for x -/
def yes (v : List (Int × Int)) (x : Int) : List Int := (v.filter (fun p => decide (p.2 = x))).map (·.1)
theorem yes_len (v : List (Int × Int)) (x : Int) : (yes v x).length ≤ v.length := by unfold yes; rw [List.length_map]; exact List.length_filter_le _ _
theorem yes_mem {v : List (Int × Int)} {x i : Int} : i ∈ yes v x ↔ (i, x) ∈ v := by
  unfold yes
  rw [List.mem_map]
  constructor
  · rintro ⟨⟨a, b⟩, h, rfl⟩
    rw [List.mem_filter] at h
    have := h.2; simp at this; subst this; exact h.1
  · intro h
    exact ⟨(i, x), List.mem_filter.2 ⟨h, by simp⟩, rfl⟩
theorem yes_put {v : List (Int × Int)} {k : Nat} (hk : k < v.length) : Mp.put (fun x => yes (v.take k) x) v[k].2 (yes (v.take k) v[k].2 ++ [v[k].1]) = fun x => yes (v.take (k + 1)) x := by
  funext x
  unfold Mp.put yes
  rw [List.take_succ_eq_append_getElem hk, List.filter_append, List.map_append]
  by_cases hx : x = v[k].2
  · rw [if_pos hx, hx]; simp
  · rw [if_neg hx]
    have : ¬ v[k].2 = x := fun e => hx e.symm
    simp [this]
theorem cnt_nil : ∀ l : List Int, cnt [] l = 0
  | [] => rfl
  | m :: l => by simp only [cnt, cnt_nil l]; simp
theorem no_rea {old new : List Int} : ¬ Rea old new [] := fun h => by
  have := h.2.1
  unfold Mj at this
  rw [cnt_nil] at this; omega
end El
set_option maxRecDepth 100000 in
set_option maxHeartbeats 1000000 in
theorem winner_any (w : World) (Ao : Option Addr) (old : List Int) (co : Nat) (An : Option Addr) (new : List Int) (cn : Nat) (hAo : Rd w Ao (old.map (.int .i64))) (hAn : Rd w An (new.map (.int .i64))) (hol : old.length ≤ 65536) (hnl : new.length ≤ 65536) (Av : Option Addr) (v : List (Int × Int)) (cv : Nat) (hv : Rd w Av (v.flatMap El.vc)) (hvl : v.length ≤ 60) (hvb : ∀ x ∈ v, (0 ≤ x.1 ∧ x.1 ≤ 4) ∧ (0 ≤ x.2 ∧ x.2 ≤ 2)) : Calls Try.prog 13 #[.agg #[.slice Ao old.length co, .slice An new.length cn], .slice Av v.length cv] w fun e_ w' => ∃ r, e_ = .returned (.int .i64 r) ∧ ((r = -1 ∧ ∀ x, ¬ El.Rea old new (El.yes v x)) ∨ (0 ≤ r ∧ r ≤ 2 ∧ El.Rea old new (El.yes v r))) ∧ Below w.heap.size w w' := by
  refine Fw.calls Try.func13 rfl Try.ntmps13 rfl ?_
  have HB := Below.refl (w.heap.size) w
  refine Fw.seq fun _ hK1 => ?_
  refine Fw.region ?_
  refine Fw.box rfl rfl ?_
  intro w1 gm egm Hm hb
  have lgm : w.heap.size ≤ gm := by have := HB.size; omega
  replace HB := HB.trans (hb.mono HB.size)
  clear hb
  clear egm
  refine Fw.s (Fw.val_assign rfl) rfl ?_
  refine Fw.nil ?_
  refine hK1 _ _ ?_
  refine Fw.seq fun _ hK2 => ?_
  refine Fw.region ?_
  refine Mp.makeMap (k := 3) (q := .i64) rfl ?_
  intro w2 gp egp HMo hb
  have lgp : w.heap.size ≤ gp := by have := HB.size; omega
  replace Hm := Hm.low hb
  replace HB := HB.trans (hb.mono HB.size)
  clear hb
  clear egp
  refine Fw.s (Fw.val_assign rfl) rfl ?_
  refine Fw.nil ?_
  refine hK2 _ _ ?_
  refine Fw.seq fun _ hK3 => ?_
  refine Fw.seq fun _ hK4 => ?_
  refine Fw.region ?_
  refine Fw.s (Fw.val_move rfl) rfl ?_
  refine Fw.s (Fw.val_len Try.underlying46 rfl) rfl ?_
  refine Fw.s (Fw.val_move rfl) rfl ?_
  refine Fw.nil ?_
  refine hK4 _ _ ?_
  refine Fw.block ?_
  have HG : Mp.Gr Try.prog w2 3 .i64 3 1 w.heap.size gp 0 El.ic (fun x => El.yes (v.take 0) x) (fun _ => none) (fun _ => 0) := Mp.Gr.start HMo
  clear HMo
  refine Fw.loop (fun m_ f_ W_ => ∃ (k : Nat) (Af : Int → Option Addr) (cf : Int → Nat), m_ = v.length - k ∧ k ≤ v.length ∧ Blk W_ gm 26 #[.slice Ao old.length co, .slice An new.length cn] ∧ Mp.Gr Try.prog W_ 3 .i64 3 1 w.heap.size gp k El.ic (fun x => El.yes (v.take k) x) Af cf ∧ Below (w.heap.size) w W_ ∧ f_ = [(13, .int .i64 k), (12, .int .i64 v.length), (11, .slice Av v.length cv), (5, .map (some gp)), (2, .pointer (some ⟨gm, 0, none⟩))]) ⟨_, _, ⟨0, _, _, rfl, Nat.zero_le _, Hm, HG, HB, rfl⟩, (.cons rfl (.cons rfl (.cons rfl (.cons rfl (.cons rfl .nil)))))⟩ ?_
  clear Hm HG HB
  rintro m5_ _ w3 ⟨k, Af, cf, hm5_, hk, Hm, HG, HB, rfl⟩
  refine Fw.seq fun _ hK6 => ?_
  refine Fw.region ?_
  refine Fw.s2 (Fw.val_bin rfl rfl Fw.b_lss) rfl ?_ ?_
  · rintro hkl
    refine Fw.nil ?_
    refine hK6 _ _ ?_
    refine Fw.seq fun _ hK8 => ?_
    refine Fw.condT rfl ?_
    refine Fw.skip ?_
    refine hK8 _ _ ?_
    refine Fw.seq fun _ hK9 => ?_
    refine Fw.block ?_
    refine Fw.seq fun _ hK10 => ?_
    have hk2 : k < v.length := by omega
    have hvk := hvb _ (List.getElem_mem hk2)
    obtain ⟨ad, b_, o_, hA, hadd, HVe⟩ := Fw.rdAt El.vc_len (by decide) hv k hk2
    refine Fw.region ?_
    refine Fw.s (Fw.val_indexR Try.underlying46 sz47 rfl hA rfl rfl hk2 hadd) rfl ?_
    refine Fw.ldA ag47 rfl ((HVe.low HB)) rfl rfl ?_
    refine Fw.alloc ze47 rfl ?_
    intro w4 gx egx Hx hb
    have n_gm_gx : gm < gx := by have := Hm.lt; omega
    have lgx : w.heap.size ≤ gx := by have := HB.size; omega
    replace Hm := Hm.low hb
    replace HG := HG.low hb
    replace HB := HB.trans (hb.mono HB.size)
    clear hb
    clear egx
    refine Fw.storeW sz47 rfl rfl Hx rfl rfl (by exact Fw.oneCells rfl) ?_
    intro w5 N_ hc
    replace Hm := Hm.chg hc (by omega)
    replace HG := HG.box Hx (by decide) hc
    replace HB := HB.trans (hc.below (B := w.heap.size) (fun k e => by omega) HB.size)
    clear hc
    clear Hx
    have Hx := N_
    clear N_
    replace Hx : Blk w5 gx 47 #[.int .i64 v[k].1, .int .i64 v[k].2] := Hx
    refine Fw.nil ?_
    refine hK10 _ _ ?_
    refine Fw.seq fun _ hK12 => ?_
    refine Fw.region ?_
    refine Fw.s (Fw.val_indexP (m := 1) Try.underlying47 sz3 rfl rfl rfl (by decide) rfl) rfl ?_
    refine Fw.ld sc3 rfl (Hx.cell 1) rfl ?_
    refine Fw.s (Fw.Val.T (Fw.val_bin rfl rfl Fw.b_geq) (by omega)) rfl ?_
    refine Fw.nil ?_
    refine hK12 _ _ ?_
    refine Fw.condT rfl ?_
    have HMp := HG.map
    have hyl : (El.yes (v.take k) v[k].2).length ≤ 60 := by have := El.yes_len (v.take k) v[k].2; rw [List.length_take] at this; omega
    have hBr : w.heap.size ≤ w5.heap.size := HB.size
    refine Fw.regionLS (fun W_ => Below (w.heap.size) w5 W_ ∧ Blk W_ gx 47 #[.int .i64 v[k].1, .int .i64 v[k].2] ∧ Mp.MapI Try.prog W_ 3 .i64 gp k (Mp.sl (fun x => El.yes (v.take k) x) Af cf)) 11 (by kernel_rfl) ⟨(Fw.drew_low w5).mono hBr, Hx.low (Fw.drew_low w5), HMp.low (Fw.drew_low w5)⟩ ?_
    have R_Hm := Hm
    have R_Hx := Hx
    have R_HB := HB
    intro w6 hb HS
    replace HS := HS.1
    replace Hm := Hm.low hb
    replace HG := HG.low hb
    replace Hx := Hx.low hb
    replace HMp := HMp.low hb
    replace HB := HB.trans (hb.mono HB.size)
    clear hb
    refine Fw.lTk 0 rfl rfl (Fw.yV (Fw.val_move rfl)) rfl ?_
    refine Fw.lTk 1 rfl rfl (Fw.yV (Fw.val_indexP (m := 1) Try.underlying47 sz3 rfl rfl rfl (by decide) rfl)) rfl ?_
    refine Fw.lTk 2 rfl rfl (Fw.yV (Fw.val_load sc3 rfl (fun _ h_ => h_.2.1.cell 1))) rfl ?_
    refine Fw.lTk 3 rfl rfl (Fw.yV (Fw.val_move rfl)) rfl ?_
    refine Fw.lTk 4 rfl rfl (Fw.yV (Fw.val_indexP (m := 1) Try.underlying47 sz3 rfl rfl rfl (by decide) rfl)) rfl ?_
    refine Fw.lTk 5 rfl rfl (Fw.yV (Fw.val_load sc3 rfl (fun _ h_ => h_.2.1.cell 1))) rfl ?_
    refine Fw.lTk 6 rfl rfl (Fw.yV (Mp.val_lookG (fun _ h_ => h_.2.2) HG.nil Try.underlying3 Try.underlying82 Try.zeroValue23 rfl rfl (Mp.wf64 ⟨by omega, by omega⟩))) rfl ?_
    refine Fw.lTk 7 rfl rfl (Fw.yV (Fw.val_indexP (m := 0) Try.underlying47 sz3 rfl rfl rfl (by decide) rfl)) rfl ?_
    refine Fw.lTk 8 rfl rfl (Fw.yV (Fw.val_load sc3 rfl (fun _ h_ => h_.2.1.cell 0))) rfl ?_
    refine Fw.lOp 9 rfl (by kernel_rfl) ?_
    refine Fw.buildSlice [_] sl23 rfl rfl (by exact Fw.allSz rfl) (by decide) rfl ?_
    intro w7 gS29 egS29 HS29 hb
    have rgS29 : w5.heap.size ≤ gS29 := by have := HS.size; omega
    have n_gm_gS29 : gm < gS29 := by have := Hm.lt; omega
    have n_gx_gS29 : gx < gS29 := by have := Hx.lt; omega
    have lgS29 : w.heap.size ≤ gS29 := by have := HB.size; omega
    replace Hm := Hm.low hb
    replace HG := HG.low hb
    replace Hx := Hx.low hb
    replace HMp := HMp.low hb
    replace HS := HS.trans (hb.mono (Nat.le_trans hBr HS.size))
    replace HB := HB.trans (hb.mono HB.size)
    clear hb
    clear egS29
    refine Fw.lNext ⟨HS, Hx, HMp⟩ ?_
    refine Fw.lOp 10 rfl (by kernel_rfl) ?_
    have HRw : w7.ownsRow w.heap.size 3 1 (.slice (Af v[k].2) (El.yes (v.take k) v[k].2).length (cf v[k].2)) (El.yes (v.take k) v[k].2).length ((El.yes (v.take k) v[k].2).flatMap El.ic) := HG.row v[k].2
    refine Fw.append (base := w.heap.size) (El.yes (v.take k) v[k].2 ++ [v[k].1]).length ((El.yes (v.take k) v[k].2 ++ [v[k].1]).flatMap El.ic) sl23 rfl rfl HRw (Fw.rdBlk HS29) rfl (Fw.oneCellsL rfl) (by unfold maxLen; omega) HB.size (by simp) (by rw [List.flatMap_append]; rfl) rfl ?_
    intro A30 c30 w8 N30 hbb hcA hrowA
    replace Hx := Hx.chg hcA (fun e => own_ne_blk HRw Hx (by decide) e.symm)
    replace Hm := Hm.chg hcA (fun e => own_ne_blk HRw Hm (by decide) e.symm)
    replace HMp := HMp.chg hcA (HMp.ne_own HRw)
    replace HB := HB.trans hbb
    replace HS := HS.trans hbb
    have HGo := HG
    clear HG hbb HRw HS29
    refine Fw.lNext ⟨HS, Hx, HMp⟩ ?_
    refine Fw.lLast rfl (by kernel_rfl) (by kernel_rfl) ?_
    refine Mp.mapUpdate HMp Try.underlying3 Try.underlying82 (by unfold maxLen; omega) rfl rfl rfl (Mp.wf64 ⟨by omega, by omega⟩) ?_
    intro w9 HM2 hc2
    have HG2 := HGo.put_ (v := v[k].1) rfl hcA N30 hrowA HM2 hc2
    rw [El.yes_put hk2] at HG2
    replace Hm := Hm.chg hc2 (fun e => HMp.ne_blk Hm e.symm)
    replace HB := HB.trans (hc2.below (fun k e => by omega) HB.size)
    clear HGo hcA N30 hrowA HM2 hc2 HMp Hx
    have HG := HG2
    clear HG2
    refine Fw.nil ?_
    refine Fw.X_blockN (id := 1) ?_
    refine hK9 _ _ (Fw.FC.sub (f' := [(13, _), (12, _), (11, _), (5, _), (2, _)]) (.cons rfl (.cons rfl (.cons rfl (.cons rfl (.cons rfl .nil))))) ?_)
    refine Fw.region ?_
    refine Fw.s (Fw.val_bin rfl rfl (Fw.b_add (Fw.i64_ok (by omega)))) rfl ?_
    refine Fw.s (Fw.val_move rfl) rfl ?_
    refine Fw.nil ?_
    refine Fw.roundEnd _ _ (by omega) ⟨k + 1, Mp.put Af v[k].2 A30, Mp.put cf v[k].2 c30, rfl, by omega, Hm, HG, HB, rfl⟩ (.cons rfl (.cons rfl (.cons rfl (.cons rfl (.cons rfl .nil)))))
  · rintro hkl
    refine Fw.nil ?_
    refine hK6 _ _ ?_
    refine Fw.seq fun _ hK13 => ?_
    refine Fw.condF rfl ?_
    refine Fw.exit ?_
    refine Fw.X_exit ?_
    refine Fw.X_exit ?_
    refine Fw.X_block ?_
    refine hK3 _ _ ?_
    refine Fw.seq fun _ hK14 => ?_
    refine Fw.seq fun _ hK15 => ?_
    obtain rfl : k = v.length := by omega
    simp only [List.take_length] at HG
    refine Fw.region ?_
    refine Fw.s (Fw.val_move rfl) rfl ?_
    refine Fw.call cf33 rfl rfl (keysB_any _ _) ?_
    rintro e_ w10 ⟨gq, rfl, HKc, hb⟩
    refine ⟨_, rfl, ?_⟩
    replace Hm := Hm.low hb
    replace HG := HG.low hb
    replace HB := HB.trans (hb.mono HB.size)
    clear hb
    refine Fw.call cf32 rfl rfl (sortedI_any _ gq gp _ _ HKc HG.map (by omega)) ?_
    rintro e_ w11 ⟨A34, c34, ss, rfl, hss, hsw, hsl, HO34, hb⟩
    refine ⟨_, rfl, ?_⟩
    replace Hm := Hm.low hb
    replace HG := HG.low hb
    replace HKc := (hb.cell (World.block_lt_of_cell? _ _ HKc)).trans HKc
    replace HB := HB.trans (hb.mono HB.size)
    clear hb
    refine Fw.s (Fw.val_len Try.underlying23 rfl) rfl ?_
    refine Fw.s (Fw.val_move rfl) rfl ?_
    refine Fw.nil ?_
    refine hK15 _ _ ?_
    refine Fw.block ?_
    refine Fw.loop (fun m_ f_ W_ => ∃ (j : Nat), m_ = ss.length - j ∧ j ≤ ss.length ∧ (∀ x ∈ ss.take j, ¬ El.Rea old new (El.yes v x)) ∧ Blk W_ gm 26 #[.slice Ao old.length co, .slice An new.length cn] ∧ Mp.Gr Try.prog W_ 3 .i64 3 1 w.heap.size gp v.length El.ic (fun x => El.yes v x) Af cf ∧ W_.ownsRow w10.heap.size 3 1 (.slice A34 ss.length c34) ss.length (ss.map (.int .i64)) ∧ Below (w.heap.size) w W_ ∧ f_ = [(36, .int .i64 j), (35, .int .i64 ss.length), (34, .slice A34 ss.length c34), (5, .map (some gp)), (2, .pointer (some ⟨gm, 0, none⟩))]) ⟨_, _, ⟨0, rfl, Nat.zero_le _, (fun x hx => by cases hx), Hm, HG, HO34, HB, rfl⟩, (.cons rfl (.cons rfl (.cons rfl (.cons rfl (.cons rfl .nil)))))⟩ ?_
    clear Hm HG HO34 HB
    rintro m16_ _ w12 ⟨j, hm16_, hj, hno, Hm, HG, HO34, HB, rfl⟩
    refine Fw.seq fun _ hK17 => ?_
    refine Fw.region ?_
    refine Fw.s2 (Fw.val_bin rfl rfl Fw.b_lss) rfl ?_ ?_
    · rintro hjl
      refine Fw.nil ?_
      refine hK17 _ _ ?_
      refine Fw.seq fun _ hK19 => ?_
      refine Fw.condT rfl ?_
      refine Fw.skip ?_
      refine hK19 _ _ ?_
      refine Fw.seq fun _ hK20 => ?_
      refine Fw.block ?_
      refine Fw.seq fun _ hK21 => ?_
      have hj2 : j < ss.length := by omega
      refine Fw.region ?_
      obtain ⟨ad3, b3_, o3_, hA3, hadd3, HIe⟩ := Fw.rdAtM (Rd.of_own HO34) j hj2
      refine Fw.s (Fw.val_indexR Try.underlying23 sz3 rfl hA3 rfl rfl hj2 hadd3) rfl ?_
      refine Fw.ld sc3 rfl (HIe) rfl ?_
      refine Fw.s (Fw.val_assign rfl) rfl ?_
      refine Fw.nil ?_
      refine hK21 _ _ ?_
      refine Fw.seq fun _ hK23 => ?_
      have hwf := hsw _ (List.getElem_mem hj2)
      have hyl : (El.yes v ss[j]).length ≤ 65536 := by have := El.yes_len v ss[j]; omega
      have hy : Rd w12 (Af ss[j]) ((El.yes v ss[j]).map (.int .i64)) := by have := Rd.of_own (HG.row ss[j]); rw [El.flatMap_ic] at this; exact this
      refine Fw.region ?_
      refine Fw.ldA ag26 rfl (Fw.rdBlk Hm) rfl rfl ?_
      refine Fw.s (Fw.val_move rfl) rfl ?_
      refine Fw.s (Fw.val_move rfl) rfl ?_
      refine Fw.s (Mp.val_lookG (fun _ h_ => h_ ▸ HG.map) HG.nil Try.underlying3 Try.underlying82 Try.zeroValue23 rfl rfl hwf) rfl ?_
      refine Fw.call cf14 rfl rfl (reached_any _ Ao old co An new cn (hAo.low HB) (hAn.low HB) hol hnl (Af ss[j]) (El.yes v ss[j]) (cf ss[j]) hy hyl) ?_
      rintro e_ w13 ⟨b44, rfl, h44, hb⟩
      refine ⟨_, rfl, ?_⟩
      clear HIe
      replace Hm := Hm.low hb
      replace HG := HG.low hb
      replace HO34 := own_below HO34 hb (Nat.le_refl _)
      replace HB := HB.trans (hb.mono HB.size)
      clear hb
      refine Fw.b2 ?_ ?_
      · rintro rfl
        refine Fw.nil ?_
        refine hK23 _ _ (Fw.FC.sub (f' := [(44, _), (9, _), (36, _), (35, _), (34, _), (5, _), (2, _)]) (.cons rfl (.cons rfl (.cons rfl (.cons rfl (.cons rfl (.cons rfl (.cons rfl .nil))))))) ?_)
        refine Fw.condT rfl ?_
        refine Fw.seq fun _ hK24 => ?_
        refine Fw.region ?_
        refine Fw.s (Fw.val_move rfl) rfl ?_
        refine Fw.s (Fw.val_assign rfl) rfl ?_
        refine Fw.nil ?_
        refine hK24 _ _ (Fw.FC.sub (f' := [(4, _)]) (.cons rfl .nil) ?_)
        refine Fw.ret ?_
        refine Fw.X_blockR ?_
        refine Fw.X_ret ?_
        refine Fw.X_ret ?_
        refine Fw.X_blockR ?_
        refine Fw.X_ret ?_
        refine Fw.ret_ [.tmp 4] [_] Try.results13 (.tmp rfl .nil) ?_
        have hM : Mp.sl (fun x => El.yes v x) Af cf ss[j] ≠ none := (hss _ hwf).1 (List.getElem_mem hj2)
        have hR := h44.1 rfl
        have hne : El.yes v ss[j] ≠ [] := fun e => El.no_rea (by rw [e] at hR; exact hR)
        obtain ⟨i, hi⟩ := List.exists_mem_of_ne_nil _ hne
        have := hvb _ (El.yes_mem.1 hi)
        exact ⟨_, rfl, .inr ⟨this.2.1, this.2.2, hR⟩, HB⟩
      · rintro rfl
        refine Fw.nil ?_
        refine hK23 _ _ (Fw.FC.sub (f' := [(44, _), (9, _), (36, _), (35, _), (34, _), (5, _), (2, _)]) (.cons rfl (.cons rfl (.cons rfl (.cons rfl (.cons rfl (.cons rfl (.cons rfl .nil))))))) ?_)
        refine Fw.condF rfl ?_
        refine Fw.skip ?_
        refine Fw.X_blockN (id := 3) ?_
        refine hK20 _ _ ?_
        refine Fw.region ?_
        refine Fw.s (Fw.val_bin rfl rfl (Fw.b_add (Fw.i64_ok (by omega)))) rfl ?_
        refine Fw.s (Fw.val_move rfl) rfl ?_
        refine Fw.nil ?_
        refine Fw.roundEnd _ _ (by omega) ⟨j + 1, rfl, by omega, (fun x hx => by rw [List.take_succ_eq_append_getElem hj2] at hx; rcases List.mem_append.1 hx with h_ | h_; exact hno x h_; rw [List.mem_singleton.1 h_]; intro h9; have := h44.2 h9; simp at this), Hm, HG, HO34, HB, rfl⟩ (.cons rfl (.cons rfl (.cons rfl (.cons rfl (.cons rfl .nil)))))
    · rintro hjl
      refine Fw.nil ?_
      refine hK17 _ _ ?_
      refine Fw.seq fun _ hK25 => ?_
      refine Fw.condF rfl ?_
      refine Fw.exit ?_
      refine Fw.X_exit ?_
      refine Fw.X_exit ?_
      refine Fw.X_block ?_
      refine hK14 _ _ ?_
      refine Fw.seq fun _ hK26 => ?_
      refine Fw.region ?_
      refine Fw.s (Fw.val_assign rfl) rfl ?_
      refine Fw.nil ?_
      refine hK26 _ _ ?_
      refine Fw.ret ?_
      refine Fw.ret_ [.tmp 4] [_] Try.results13 (.tmp rfl .nil) ?_
      rw [List.take_of_length_le (by omega)] at hno
      refine ⟨_, rfl, .inl ⟨rfl, fun x hR => ?_⟩, HB⟩
      have hne : El.yes v x ≠ [] := fun e => El.no_rea (by rw [e] at hR; exact hR)
      obtain ⟨i, hi⟩ := List.exists_mem_of_ne_nil _ hne
      have hb2 := (hvb _ (El.yes_mem.1 hi)).2
      refine hno x ((hss x (Mp.wf64 ⟨by omega, by omega⟩)).2 ?_) hR
      unfold Mp.sl
      rw [if_neg (fun e => hne (List.eq_nil_of_length_eq_zero e))]
      simp

end Go.Proofs.Ytgpdodhegacndaa
