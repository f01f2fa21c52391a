/- TopTalks: package interview: New, Replay. -/
import Derived.Test.YtpoacekefhblhaaTkH
namespace Go.Proofs.Ytpoacekefhblhaa
set_option linter.unusedSimpArgs false
set_option linter.unusedVariables false
open Go.RowKit

set_option maxRecDepth 100000 in
set_option maxHeartbeats 1000000 in
theorem new_any (w : World) (nm : ByteArray) (ver : Int) (Tq : Option Addr) (qs : List Tk.Qu) (cq : Nat) (hq : Tk.QsAt w Tq qs) (hql : qs.length ≤ 64) (ha : ∀ q ∈ qs, q.an.length ≤ 16) : Calls Try.prog 7 #[.agg #[.string nm, .int .i64 ver, .slice Tq qs.length cq]] w fun e_ w' => ∃ pt c, e_ = .returned (.tuple #[.pointer pt, .int .i64 c]) ∧ ((¬ Tk.Good nm ver qs ∧ pt = none ∧ c ≠ 0) ∨ (Tk.Good nm ver qs ∧ c = 0 ∧ ∃ g qs', pt = some ⟨g, 0, none⟩ ∧ Tk.nf qs' = Tk.nf qs ∧ Tk.IvAt w' w.heap.size g nm ver qs' [])) ∧ Below w.heap.size w w' := by
  refine Fw.calls Try.func7 rfl Try.ntmps7 rfl ?_
  have HB := Below.refl (w.heap.size) w
  refine Fw.seq fun _ hK1 => ?_
  refine Fw.region ?_
  refine Fw.box rfl rfl ?_
  intro w1 gt egt Ht hb
  have lgt : w.heap.size ≤ gt := by have := HB.size; omega
  replace HB := HB.trans (hb.mono HB.size)
  clear hb
  clear egt
  refine Fw.s (Fw.val_assign rfl) rfl ?_
  refine Fw.s (Fw.val_assign rfl) rfl ?_
  refine Fw.nil ?_
  refine hK1 _ _ ?_
  refine Fw.seq fun _ hK2 => ?_
  refine Fw.seq fun _ hK3 => ?_
  refine Fw.region ?_
  refine Fw.ldA ag24 rfl (Fw.rdBlk Ht) rfl rfl ?_
  refine Fw.call cf6 rfl rfl (check_any _ nm ver Tq qs cq (hq.low HB) hql ha) ?_
  rintro e_ w2 ⟨i7, c7, rfl, h7, hb⟩
  refine ⟨_, rfl, ?_⟩
  replace Ht := Ht.low hb
  replace HB := HB.trans (hb.mono HB.size)
  clear hb
  refine Fw.s (Fw.val_move rfl) rfl ?_
  refine Fw.s (Fw.val_extract rfl rfl) rfl ?_
  refine Fw.s (Fw.val_extract rfl rfl) rfl ?_
  refine Fw.s (Fw.val_assign rfl) rfl ?_
  refine Fw.s (Fw.val_assign rfl) rfl ?_
  refine Fw.nil ?_
  refine hK3 _ _ (Fw.FC.sub (f' := [(5, _), (1, _)]) (.cons rfl (.cons rfl .nil)) ?_)
  refine Fw.seq fun _ hK4 => ?_
  refine Fw.region ?_
  refine Fw.s (Fw.val_move rfl) rfl ?_
  refine Fw.s2 (Fw.val_bin rfl rfl Fw.b_neq) rfl ?_ ?_
  · rintro hc
    refine Fw.nil ?_
    refine hK4 _ _ ?_
    refine Fw.condT rfl ?_
    refine Fw.seq fun _ hK6 => ?_
    refine Fw.region ?_
    refine Fw.s (Fw.val_move rfl) rfl ?_
    refine Fw.s (Fw.val_assign rfl) rfl ?_
    refine Fw.s (Fw.val_assign rfl) rfl ?_
    refine Fw.nil ?_
    refine hK6 _ _ ?_
    refine Fw.ret ?_
    refine Fw.X_ret ?_
    refine Fw.ret_ [.tmp 2, .tmp 3] [_, _] Try.results7 (.tmp rfl (.tmp rfl .nil)) ?_
    exact ⟨none, c7, rfl, .inl ⟨fun h => hc (h7.2 h), rfl, hc⟩, HB⟩
  · rintro hc
    refine Fw.nil ?_
    refine hK4 _ _ ?_
    refine Fw.condF rfl ?_
    refine Fw.skip ?_
    refine hK2 _ _ ?_
    refine Fw.seq fun _ hK7 => ?_
    have hc0 : c7 = 0 := by omega
    have hg := h7.1 hc0
    refine Fw.region ?_
    refine Fw.s (Fw.val_fieldAddr fl24_0 rfl rfl) rfl ?_
    refine Fw.ld sc9 rfl (Ht.cell 0) rfl ?_
    refine Fw.s (Fw.val_fieldAddr fl24_1 rfl rfl) rfl ?_
    refine Fw.ld sc3 rfl (Ht.cell 1) rfl ?_
    refine Fw.s (Fw.val_build (ps := [(0, _), (1, _)]) rfl (bu24_0_1 _ _)) rfl ?_
    refine Fw.alloc ze24 rfl ?_
    intro w3 go ego Ho hb
    have n_gt_go : gt < go := by have := Ht.lt; omega
    have lgo : w.heap.size ≤ go := by have := HB.size; omega
    replace Ht := Ht.low hb
    replace HB := HB.trans (hb.mono HB.size)
    clear hb
    clear ego
    refine Fw.storeW sz24 rfl rfl Ho rfl rfl (by exact Fw.oneCells rfl) ?_
    intro w4 N_ hc
    replace Ht := Ht.chg hc (by omega)
    replace HB := HB.trans (hc.below (B := w.heap.size) (fun k e => by omega) HB.size)
    clear hc
    clear Ho
    have Ho := N_
    clear N_
    replace Ho : Blk w4 go 24 #[.string nm, .int .i64 ver, .slice none 0 0] := Ho
    refine Fw.nil ?_
    refine hK7 _ _ (Fw.FC.sub (f' := [(6, _), (1, _)]) (.cons rfl (.cons rfl .nil)) ?_)
    refine Fw.seq fun _ hK8 => ?_
    refine Fw.seq fun _ hK9 => ?_
    refine Fw.region ?_
    refine Fw.s (Fw.val_fieldAddr fl24_2 rfl rfl) rfl ?_
    refine Fw.ld sc22 rfl (Ht.cell 2) rfl ?_
    refine Fw.s (Fw.val_len Try.underlying22 rfl) rfl ?_
    refine Fw.s (Fw.val_move rfl) rfl ?_
    refine Fw.nil ?_
    refine hK9 _ _ ?_
    refine Fw.block ?_
    have HQ : World.ownsRow w4 w.heap.size 30 2 (.slice none ([] : List Tk.Qu).length 0) ([] : List Tk.Qu).length (([] : List Tk.Qu).flatMap Tk.Qu.cells) := ⟨rfl, .inl ⟨rfl, rfl⟩⟩
    have HQA : (∀ q ∈ ([] : List Tk.Qu), Fw.RdT w4 68 q.A (q.an.flatMap Tk.An.cells)) := fun q hq_ => by cases hq_
    refine Fw.loop (fun m_ f_ W_ => ∃ (k : Nat) (ql : List Tk.Qu) (A_ : Option Addr) (c_ : Nat), m_ = qs.length - k ∧ k ≤ qs.length ∧ Tk.nf ql = Tk.nf (qs.take k) ∧ Blk W_ go 24 #[.string nm, .int .i64 ver, .slice A_ ql.length c_] ∧ World.ownsRow W_ w.heap.size 30 2 (.slice A_ ql.length c_) ql.length (ql.flatMap Tk.Qu.cells) ∧ (∀ q ∈ (ql : List Tk.Qu), Fw.RdT W_ 68 q.A (q.an.flatMap Tk.An.cells)) ∧ Below (w.heap.size) w W_ ∧ f_ = [(25, .int .i64 k), (24, .int .i64 qs.length), (23, .slice Tq qs.length cq), (6, .pointer (some ⟨go, 0, none⟩))]) ⟨_, _, ⟨0, [], none, 0, rfl, Nat.zero_le _, rfl, Ho, HQ, HQA, HB, rfl⟩, (.cons rfl (.cons rfl (.cons rfl (.cons rfl .nil))))⟩ ?_
    clear Ho HQ HQA HB
    rintro m10_ _ w5 ⟨k, ql, A_, c_, hm10_, hk, hnf, Ho, HQ, HQA, HB, rfl⟩
    refine Fw.seq fun _ hK11 => ?_
    refine Fw.region ?_
    refine Fw.s2 (Fw.val_bin rfl rfl Fw.b_lss) rfl ?_ ?_
    · rintro hlt
      refine Fw.nil ?_
      refine hK11 _ _ ?_
      refine Fw.seq fun _ hK13 => ?_
      refine Fw.condT rfl ?_
      refine Fw.skip ?_
      refine hK13 _ _ ?_
      refine Fw.seq fun _ hK14 => ?_
      refine Fw.block ?_
      refine Fw.seq fun _ hK15 => ?_
      have hk2 : k < qs.length := by omega
      obtain ⟨ad, b_, o_, hA, hadd, HQe⟩ := Fw.rdAt Tk.Qu.len (by decide) hq.1 k hk2
      have hqa := (hg.1.1 _ (List.getElem_mem hk2)).2.1
      have hll : ql.length = k := by have := Tk.nf_len_eq hnf; rw [List.length_take] at this; omega
      refine Fw.region ?_
      refine Fw.s (Fw.val_indexR Try.underlying22 sz30 rfl hA rfl rfl hk2 hadd) rfl ?_
      refine Fw.ldA ag30 rfl ((HQe.low HB)) rfl rfl ?_
      refine Fw.alloc ze30 rfl ?_
      intro w6 gq egq Hq hb
      have nq : ∀ k_, A_.map (·.block) = some k_ → k_ < gq := fun k_ e => by have := Fw.own_hi HQ e; omega
      have n_go_gq : go < gq := by have := Ho.lt; omega
      have lgq : w.heap.size ≤ gq := by have := HB.size; omega
      replace Ho := Ho.low hb
      replace HQ := own_below HQ hb (Nat.le_refl _)
      replace HQA := fun f_ hf_ => (HQA f_ hf_).low hb
      replace HB := HB.trans (hb.mono HB.size)
      clear hb
      clear egq
      refine Fw.storeW sz30 rfl rfl Hq rfl rfl (by exact Fw.oneCells rfl) ?_
      intro w7 N_ hc
      replace Ho := Ho.chg hc (by omega)
      replace HQ := own_to HQ hc (fun g_ h_ e_ => by have := nq _ h_; omega)
      replace HQA := fun f_ hf_ => ((HQA f_ hf_)).chg hc (Fw.RdT.ne_ (HQA f_ hf_) Hq (by decide))
      replace HB := HB.trans (hc.below (B := w.heap.size) (fun k e => by omega) HB.size)
      clear hc
      clear Hq
      have Hq := N_
      clear N_
      replace Hq : Blk w7 gq 30 #[.string qs[k].text, .slice qs[k].A qs[k].an.length qs[k].c] := Hq
      refine Fw.nil ?_
      refine hK15 _ _ ?_
      have hBr : w.heap.size ≤ w7.heap.size := HB.size
      refine Fw.regionLS (fun W_ => Below (w.heap.size) w7 W_ ∧ Blk W_ gq 30 #[.string qs[k].text, .slice qs[k].A qs[k].an.length qs[k].c] ∧ Blk W_ go 24 #[.string nm, .int .i64 ver, .slice A_ ql.length c_]) 7 (by kernel_rfl) ⟨(Fw.drew_low w7).mono hBr, Hq.low (Fw.drew_low w7), Ho.low (Fw.drew_low w7)⟩ ?_
      have R_Ho := Ho
      have R_Hq := Hq
      have R_HB := HB
      intro w8 hb HS
      replace HS := HS.1
      replace Ho := Ho.low hb
      replace HQ := own_below HQ hb (Nat.le_refl _)
      replace HQA := fun f_ hf_ => (HQA f_ hf_).low hb
      replace Hq := Hq.low hb
      replace HB := HB.trans (hb.mono HB.size)
      clear hb
      refine Fw.lTk 0 rfl rfl (Fw.yV (Fw.val_fieldAddr fl24_2 rfl rfl)) rfl ?_
      refine Fw.lTk 1 rfl rfl (Fw.yV (Fw.val_load sc22 rfl (fun _ h_ => h_.2.2.cell 2))) rfl ?_
      refine Fw.lTk 2 rfl rfl (Fw.yV (Fw.val_loadA ag30 rfl (fun _ h_ => Fw.rdBlk h_.2.1) rfl)) rfl ?_
      refine Fw.lOp 3 rfl (by kernel_rfl) ?_
      refine Fw.call cf24 rfl rfl (copyQ_any _ qs[k] ((hq.2 _ (List.getElem_mem hk2)).low HB) (by omega) (by omega)) ?_
      rintro e_ w9 ⟨A32, c32, rfl, H32, hb⟩
      refine ⟨_, rfl, ?_⟩
      replace Ho := Ho.low hb
      replace HQ := own_below HQ hb (Nat.le_refl _)
      replace HQA := fun f_ hf_ => (HQA f_ hf_).low hb
      replace Hq := Hq.low hb
      replace HS := HS.trans (hb.mono (Nat.le_trans hBr HS.size))
      replace HB := HB.trans (hb.mono HB.size)
      clear hb
      have HR32 := Fw.RdT.own H32
      clear H32
      replace HQA : ∀ q ∈ ql ++ [(⟨qs[k].text, A32, c32, qs[k].an⟩ : Tk.Qu)], Fw.RdT w9 68 q.A (q.an.flatMap Tk.An.cells) := Tk.all_app HQA HR32
      clear HR32
      refine Fw.lNext ⟨HS, Hq, Ho⟩ ?_
      refine Fw.lOp 4 rfl (by kernel_rfl) ?_
      refine Fw.buildSlice [_] sl22 rfl rfl (by exact Fw.allSz rfl) (by decide) rfl ?_
      intro w10 gS33 egS33 HS33 hb
      have rgS33 : w7.heap.size ≤ gS33 := by have := HS.size; omega
      have n_go_gS33 : go < gS33 := by have := Ho.lt; omega
      have n_gq_gS33 : gq < gS33 := by have := Hq.lt; omega
      have lgS33 : w.heap.size ≤ gS33 := by have := HB.size; omega
      replace Ho := Ho.low hb
      replace HQ := own_below HQ hb (Nat.le_refl _)
      replace HQA := fun f_ hf_ => (HQA f_ hf_).low hb
      replace Hq := Hq.low hb
      replace HS := HS.trans (hb.mono (Nat.le_trans hBr HS.size))
      replace HB := HB.trans (hb.mono HB.size)
      clear hb
      clear egS33
      refine Fw.lNext ⟨HS, Hq, Ho⟩ ?_
      refine Fw.lOp 5 rfl (by kernel_rfl) ?_
      refine Fw.append ((ql ++ [(⟨qs[k].text, A32, c32, qs[k].an⟩ : Tk.Qu)]).length) ((ql ++ [(⟨qs[k].text, A32, c32, qs[k].an⟩ : Tk.Qu)]).flatMap Tk.Qu.cells) sl22 rfl rfl HQ (show Rd _ _ (Tk.Qu.cells (⟨qs[k].text, A32, c32, qs[k].an⟩ : Tk.Qu)) from Fw.rdBlk HS33) rfl (Fw.oneCellsL rfl) (by unfold maxLen; omega) HB.size (by simp) (by simp) rfl ?_
      intro A34 c34 w11 N_ hbb hc hrow
      replace HS := HS.trans hbb
      replace HB := HB.trans hbb
      replace Ho := Ho.chg hc (fun e => own_ne_blk HQ Ho (by decide) e.symm)
      replace Hq := Hq.chg hc (fun e => by have := nq gq (by rw [← ownBlock_slice A_ ql.length c_]; exact e.symm); omega)
      replace HQA := fun q_ hq_ => Fw.RdT.chgA (HQA q_ hq_) HQ (by decide) hc
      clear hbb hc hrow HQ HS33
      have HQ := N_
      clear N_
      refine Fw.lNext ⟨HS, Hq, Ho⟩ ?_
      refine Fw.lTk 6 rfl rfl (Fw.yV (Fw.val_fieldAddr fl24_2 rfl rfl)) rfl ?_
      refine Fw.lLast rfl (by kernel_rfl) (by kernel_rfl) ?_
      refine Fw.store sz22 rfl rfl Ho rfl rfl rfl ?_
      intro w12 N_ hc
      replace HQ := own_to HQ hc (fun g_ h_ e_ => own_ne HQ Ho (by decide) (by rw [h_, e_]))
      replace HQA := fun f_ hf_ => ((HQA f_ hf_)).chg hc (Fw.RdT.ne_ (HQA f_ hf_) Ho (by decide))
      replace Hq := Hq.chg hc (by omega)
      replace HB := HB.trans (hc.below (B := w.heap.size) (fun k e => by omega) HB.size)
      clear hc
      clear Ho
      have Ho := N_
      clear N_
      replace Ho : Blk w12 go 24 #[.string nm, .int .i64 ver, .slice A34 (ql ++ [(⟨qs[k].text, A32, c32, qs[k].an⟩ : Tk.Qu)]).length c34] := Ho
      refine Fw.nil ?_
      refine Fw.X_blockN (id := 1) ?_
      refine hK14 _ _ (Fw.FC.sub (f' := [(25, _), (24, _), (23, _), (6, _)]) (.cons rfl (.cons rfl (.cons rfl (.cons rfl .nil)))) ?_)
      refine Fw.region ?_
      refine Fw.s (Fw.val_bin rfl rfl (Fw.b_add (Fw.i64_ok (by omega)))) rfl ?_
      refine Fw.s (Fw.val_move rfl) rfl ?_
      refine Fw.nil ?_
      refine Fw.roundEnd _ _ (by omega) ⟨k + 1, ql ++ [(⟨qs[k].text, A32, c32, qs[k].an⟩ : Tk.Qu)], A34, c34, rfl, by omega, Tk.nf_step hk2 hnf, Ho, HQ, HQA, HB, rfl⟩ (.cons rfl (.cons rfl (.cons rfl (.cons rfl .nil))))
    · rintro hlt
      refine Fw.nil ?_
      refine hK11 _ _ ?_
      refine Fw.seq fun _ hK17 => ?_
      refine Fw.condF rfl ?_
      refine Fw.exit ?_
      refine Fw.X_exit ?_
      refine Fw.X_exit ?_
      refine Fw.X_block ?_
      refine hK8 _ _ ?_
      refine Fw.seq fun _ hK18 => ?_
      refine Fw.region ?_
      refine Fw.ldA ag24 rfl (Fw.rdBlk Ho) rfl rfl ?_
      refine Fw.s (Fw.val_build (ps := [(0, _)]) rfl (bu62_0 _ _ _ _ _)) rfl ?_
      refine Fw.box rfl rfl ?_
      intro w13 gx egx Hx hb
      have n_go_gx : go < gx := by have := Ho.lt; omega
      have lgx : w.heap.size ≤ gx := by have := HB.size; omega
      replace Ho := Ho.low hb
      replace HQ := own_below HQ hb (Nat.le_refl _)
      replace HQA := fun f_ hf_ => (HQA f_ hf_).low hb
      replace HB := HB.trans (hb.mono HB.size)
      clear hb
      clear egx
      refine Fw.s (Fw.val_assign rfl) rfl ?_
      refine Fw.s (Fw.val_assign rfl) rfl ?_
      refine Fw.nil ?_
      refine hK18 _ _ (Fw.FC.sub (f' := [(3, _), (2, _)]) (.cons rfl (.cons rfl .nil)) ?_)
      refine Fw.ret ?_
      refine Fw.ret_ [.tmp 2, .tmp 3] [_, _] Try.results7 (.tmp rfl (.tmp rfl .nil)) ?_
      have hke : k = qs.length := by omega
      rw [hke, List.take_of_length_le (Nat.le_refl _)] at hnf
      exact ⟨_, _, rfl, .inr ⟨hg, rfl, gx, ql, rfl, hnf, ⟨A_, c_, none, 0, none, 0, Hx, Fw.RdT.own HQ, HQA, ⟨rfl, .inl ⟨rfl, rfl⟩⟩, ⟨rfl, .inl ⟨rfl, rfl⟩⟩, (fun k h => by cases h), lgx⟩⟩, HB⟩

set_option maxRecDepth 100000 in
set_option maxHeartbeats 1000000 in
theorem replay_any (w : World) (nm : ByteArray) (ver : Int) (Tq : Option Addr) (qs : List Tk.Qu) (cq : Nat) (hq : Tk.QsAt w Tq qs) (hql : qs.length ≤ 64) (ha : ∀ q ∈ qs, q.an.length ≤ 16) (hg : Tk.Good nm ver qs) (As : Option Addr) (said : List Nat) (cs : Nat) (hr : Rd w As (Tk.nats said)) (hwy : Tk.Wy qs said) (hsl : said.length ≤ 60000) : Calls Try.prog 15 #[.agg #[.string nm, .int .i64 ver, .slice Tq qs.length cq], .slice As said.length cs] w fun e_ w' => ∃ g qs', e_ = .returned (.tuple #[.pointer (some ⟨g, 0, none⟩), .int .i64 0]) ∧ Tk.nf qs' = Tk.nf qs ∧ Tk.IvAt w' w.heap.size g nm ver qs' said ∧ Below w.heap.size w w' := by
  refine Fw.calls Try.func15 rfl Try.ntmps15 rfl ?_
  have HB := Below.refl (w.heap.size) w
  refine Fw.seq fun _ hK1 => ?_
  refine Fw.region ?_
  refine Fw.box rfl rfl ?_
  intro w1 gt egt Ht hb
  have lgt : w.heap.size ≤ gt := by have := HB.size; omega
  replace HB := HB.trans (hb.mono HB.size)
  clear hb
  clear egt
  refine Fw.s (Fw.val_assign rfl) rfl ?_
  refine Fw.s (Fw.val_assign rfl) rfl ?_
  refine Fw.nil ?_
  refine hK1 _ _ ?_
  refine Fw.seq fun _ hK2 => ?_
  refine Fw.region ?_
  refine Fw.ldA ag24 rfl (Fw.rdBlk Ht) rfl rfl ?_
  refine Fw.call cf7 rfl rfl (new_any _ nm ver Tq qs cq (hq.low HB) hql ha) ?_
  rintro e_ w2 ⟨pt, c7, rfl, hnew, hb⟩
  refine ⟨_, rfl, ?_⟩
  obtain ⟨_, rfl, g, qs', rfl, hnf, HI⟩ := hnew.resolve_left (fun h => h.1 hg)
  replace HI := HI.base HB.size
  replace Ht := Ht.low hb
  replace HB := HB.trans (hb.mono HB.size)
  clear hb
  refine Fw.s (Fw.val_move rfl) rfl ?_
  refine Fw.s (Fw.val_extract rfl rfl) rfl ?_
  refine Fw.s (Fw.val_extract rfl rfl) rfl ?_
  refine Fw.s (Fw.val_assign rfl) rfl ?_
  refine Fw.s (Fw.val_assign rfl) rfl ?_
  refine Fw.nil ?_
  refine hK2 _ _ (Fw.FC.sub (f' := [(7, _), (6, _), (1, _)]) (.cons rfl (.cons rfl (.cons rfl .nil))) ?_)
  refine Fw.seq fun _ hK3 => ?_
  refine Fw.seq fun _ hK4 => ?_
  refine Fw.region ?_
  refine Fw.s (Fw.val_move rfl) rfl ?_
  refine Fw.s (Fw.Val.F (Fw.val_bin rfl rfl Fw.b_neq) (by omega)) rfl ?_
  refine Fw.nil ?_
  refine hK4 _ _ ?_
  refine Fw.condF rfl ?_
  refine Fw.skip ?_
  refine hK3 _ _ ?_
  refine Fw.seq fun _ hK5 => ?_
  refine Fw.seq fun _ hK6 => ?_
  refine Fw.region ?_
  refine Fw.s (Fw.val_move rfl) rfl ?_
  refine Fw.s (Fw.val_len Try.underlying42 rfl) rfl ?_
  refine Fw.s (Fw.val_move rfl) rfl ?_
  refine Fw.nil ?_
  refine hK6 _ _ ?_
  refine Fw.block ?_
  refine Fw.loop (fun m_ f_ W_ => ∃ (k : Nat), m_ = said.length - k ∧ k ≤ said.length ∧ Tk.IvAt W_ w.heap.size g nm ver qs' (said.take k) ∧ Below (w.heap.size) w W_ ∧ f_ = [(21, .int .i64 k), (20, .int .i64 said.length), (19, .slice As said.length cs), (6, .pointer (some ⟨g, 0, none⟩))]) ⟨_, _, ⟨0, rfl, Nat.zero_le _, HI, HB, rfl⟩, (.cons rfl (.cons rfl (.cons rfl (.cons rfl .nil))))⟩ ?_
  clear HI HB
  rintro m7_ _ w3 ⟨k, hm7_, hk, HI, HB, rfl⟩
  refine Fw.seq fun _ hK8 => ?_
  refine Fw.region ?_
  refine Fw.s2 (Fw.val_bin rfl rfl Fw.b_lss) rfl ?_ ?_
  · rintro hlt
    refine Fw.nil ?_
    refine hK8 _ _ ?_
    refine Fw.seq fun _ hK10 => ?_
    refine Fw.condT rfl ?_
    refine Fw.skip ?_
    refine hK10 _ _ ?_
    refine Fw.seq fun _ hK11 => ?_
    refine Fw.block ?_
    refine Fw.seq fun _ hK12 => ?_
    have hk2 : k < said.length := by omega
    obtain ⟨x, hx⟩ := hwy k said[k] (List.getElem?_eq_getElem hk2)
    rw [← Tk.ans_nf, ← Tk.cur_nf, ← hnf, Tk.ans_nf, Tk.cur_nf] at hx
    refine Fw.region ?_
    obtain ⟨ads, bs_, os_, hAs, hadds, HSe⟩ := Fw.rdAtM hr k hk2
    refine Fw.s (Fw.val_indexR Try.underlying42 sz3 rfl hAs rfl rfl hk2 hadds) rfl ?_
    refine Fw.ld sc3 rfl (((HB.cell (World.block_lt_of_cell? _ _ HSe)).trans HSe)) rfl ?_
    refine Fw.s (Fw.val_assign rfl) rfl ?_
    refine Fw.nil ?_
    refine hK12 _ _ ?_
    refine Fw.seq fun _ hK14 => ?_
    refine Fw.region ?_
    refine Fw.s (Fw.val_move rfl) rfl ?_
    refine Fw.s (Fw.val_move rfl) rfl ?_
    refine Fw.call cf12 rfl rfl (answer_any _ w.heap.size g nm ver qs' (said.take k) HI HB.size said[k] x hx (by rw [List.length_take]; omega)) ?_
    rintro e_ w4 ⟨rfl, H2, hb⟩
    refine ⟨_, rfl, ?_⟩
    replace HB := HB.trans hb
    clear hb HI
    have HI := H2
    clear H2
    rw [← List.take_succ_eq_append_getElem hk2] at HI
    refine Fw.s (Fw.val_assign rfl) rfl ?_
    refine Fw.nil ?_
    refine hK14 _ _ (Fw.FC.sub (f' := [(10, _), (21, _), (20, _), (19, _), (6, _)]) (.cons rfl (.cons rfl (.cons rfl (.cons rfl (.cons rfl .nil))))) ?_)
    refine Fw.seq fun _ hK15 => ?_
    refine Fw.region ?_
    refine Fw.s (Fw.val_move rfl) rfl ?_
    refine Fw.s (Fw.Val.F (Fw.val_bin rfl rfl Fw.b_neq) (by omega)) rfl ?_
    refine Fw.nil ?_
    refine hK15 _ _ ?_
    refine Fw.condF rfl ?_
    refine Fw.skip ?_
    refine Fw.X_blockN ?_
    refine hK11 _ _ ?_
    refine Fw.region ?_
    refine Fw.s (Fw.val_bin rfl rfl (Fw.b_add (Fw.i64_ok (by omega)))) rfl ?_
    refine Fw.s (Fw.val_move rfl) rfl ?_
    refine Fw.nil ?_
    refine Fw.roundEnd _ _ (by omega) ⟨k + 1, rfl, by omega, HI, HB, rfl⟩ (.cons rfl (.cons rfl (.cons rfl (.cons rfl .nil))))
  · rintro hlt
    refine Fw.nil ?_
    refine hK8 _ _ ?_
    refine Fw.seq fun _ hK16 => ?_
    refine Fw.condF rfl ?_
    refine Fw.exit ?_
    refine Fw.X_exit ?_
    refine Fw.X_exit ?_
    refine Fw.X_block ?_
    refine hK5 _ _ ?_
    refine Fw.seq fun _ hK17 => ?_
    rw [List.take_of_length_le (by omega)] at HI
    refine Fw.region ?_
    refine Fw.s (Fw.val_move rfl) rfl ?_
    refine Fw.s (Fw.val_assign rfl) rfl ?_
    refine Fw.s (Fw.val_assign rfl) rfl ?_
    refine Fw.nil ?_
    refine hK17 _ _ ?_
    refine Fw.ret ?_
    refine Fw.ret_ [.tmp 4, .tmp 5] [_, _] Try.results15 (.tmp rfl (.tmp rfl .nil)) ?_
    exact ⟨g, qs', rfl, hnf, HI, HB⟩

end Go.Proofs.Ytpoacekefhblhaa
