import Derived.Test.YtodhpooddmeghaaRgI
/- Layer 9: Path. -/
namespace Go.Proofs.Ytodhpooddmeghaa
set_option linter.unusedSimpArgs false
set_option linter.unusedVariables false
open Go.RowKit

namespace Rg
theorem quo8 {P : Program} {t : TypeId} {a b : Operand} {x : Int} (h : 0 ≤ x ∧ x ≤ Sp.INF) : Fw.Bin P .quo t a b (.int .i64 x) (.int .i64 8192) (.int .i64 (x / 8192)) := Fw.b_quo (by decide) (by
  have h2 : x ≤ 4611686018427387904 := h.2
  rw [Int.tdiv_eq_ediv_of_nonneg h.1]; exact Fw.i64_ok (by omega))
theorem adj_sorted (key : Ed → Nat) (E : List Ed) (v : Nat) : (adj key E v).Pairwise (· < ·) := List.Pairwise.filter _ List.pairwise_lt_range
theorem least_of {key : Ed → Nat} {E : List Ed} {v : Nat} {P : Nat → Prop} {pre s : List {i // i ∈ adj key E v}} {x : {i // i ∈ adj key E v}} (h : (pre ++ [x]) ++ s = (adj key E v).attach) (hno : ∀ y ∈ pre, ¬ P y.val) (hadj : ∀ j, P j → j ∈ adj key E v) : ∀ j, j < x.val → ¬ P j := fun j hj hP => by
  have hs := adj_sorted key E v
  have e : adj key E v = pre.map (·.val) ++ (x.val :: s.map (·.val)) := by
    have := congrArg (List.map (·.val)) h
    rw [List.attach_map_subtype_val] at this
    refine this.symm.trans ?_; simp
  have hm := hadj j hP
  rw [e] at hm hs
  rcases List.mem_append.1 hm with hm | hm
  obtain ⟨y, hy, rfl⟩ := List.mem_map.1 hm
  exact hno y hy hP
  rcases List.mem_cons.1 hm with rfl | hm
  omega
  have h2 := (List.pairwise_append.1 hs).2.1
  have := (List.pairwise_cons.1 h2).1 j hm
  omega
theorem wok_st (E : List Ed) (ts : List Int) : WOk E.length 8589934593 ((tts E.length ts).map Sp.st) := ⟨by rw [List.length_map, tts_len], fun i hi => by
  have hl : i < (tts E.length ts).length := by rw [tts_len]; exact hi
  rw [Sp.ix_get (by simpa using hl), List.getElem_map, ← Sp.ix_get hl, tts_ix ts hi]
  have I : (Sp.INF : Int) = 4611686018427387904 := rfl
  rcases tt_bd ts i with h | h
  exact .inl (Sp.st_inf h)
  rw [Sp.st_in (by omega)]; right; omega⟩
theorem st_ix {E : List Ed} {ts : List Int} {i : Nat} (hi : i < E.length) (h : i < ((tts E.length ts).map Sp.st).length) : ((tts E.length ts).map Sp.st)[i] = Sp.st (tt ts i) := by
  rw [List.getElem_map]; congr 1
  have hl : i < (tts E.length ts).length := by rw [tts_len]; exact hi
  rw [← Sp.ix_get hl, tts_ix ts hi]
theorem star_arcs {N : Nat} {E : List Ed} {ts : List Int} {src : Nat → Prop} {D : Nat → Int} (h : Sp.IsDist (Sp.star (arcT N E ts false)) 8589934593 src D) : Sp.IsDist (arcs N E ((tts E.length ts).map Sp.st) false) 8589934593 src D :=
  h.congr rfl rfl rfl rfl fun i hi => by
    have hi : i < E.length := hi
    show Sp.st (Sp.ix (tts E.length ts) i) = Sp.ix ((tts E.length ts).map Sp.st) i
    have hl : i < (tts E.length ts).length := by rw [tts_len]; exact hi
    rw [Sp.ix_get (d := (tts E.length ts).map Sp.st) (by simpa using hl), st_ix hi, tts_ix ts hi]
theorem nkS {N : Nat} (h : N ≤ 12) : (N : Int) * (N * 8589934593 + 1) ≤ 8796093022208 := by
  have h1 : (N : Int) * 8589934593 + 1 ≤ 103079215117 := by omega
  have h2 : (N : Int) * (N * 8589934593 + 1) ≤ N * 103079215117 := Int.mul_le_mul_of_nonneg_left h1 (by omega)
  omega
theorem next_iff2 {N : Nat} {E : List Ed} {ts : List Int} {D : Nat → Int} {b v j : Nat} (hEO : EOk N E) (hN : N ≤ 12) (hD : Sp.IsDist (Sp.star (arcT N E ts false)) 8589934593 (· = b) D) (hv : v < N) (hvf : D v ≠ Sp.INF) (hj : j < E.length) (hf : E[j].f = v) :
    Sp.Next (arcT N E ts false) D v j ↔ Sp.st (tt ts j) ≠ 4611686018427387904 ∧ Sp.st (tt ts j) + D E[j].t = D v := by
  have hje := hEO _ (List.getElem_mem hj)
  have e1 : (arcT N E ts false).s j = E[j].t := arc_s hj
  have e2 : (arcT N E ts false).t j = E[j].f := arc_t hj
  have I : (Sp.INF : Int) = 4611686018427387904 := rfl
  have hwt := tt_bd ts j
  have hb : D v ≤ N * 8589934593 := (hD.bnd v hv).resolve_left hvf
  unfold Sp.Next
  rw [e1, e2, wt_ltF hj]
  constructor
  rintro ⟨ho, h1, h2, h3⟩
  have ho2 : tt ts j ≠ Sp.INF := by have := ho.2; rwa [wt_ltF hj] at this
  rw [Sp.st_in ho2]
  omega
  rintro ⟨h1, h2⟩
  have ho2 : tt ts j ≠ Sp.INF := fun e => h1 (Sp.st_inf e)
  rw [Sp.st_in ho2] at h2
  refine ⟨⟨hj, by rw [wt_ltF hj]; exact ho2⟩, hf, ?_, by omega⟩
  omega
theorem next_adj {N : Nat} {E : List Ed} {ts : List Int} {D : Nat → Int} {v j : Nat} (h : Sp.Next (arcT N E ts false) D v j) : j ∈ adj Ed.f E v := by
  have hl : j < E.length := h.1.1
  exact mem_adj.2 ⟨hl, by have := h.2.1; rwa [show (arcT N E ts false).t j = E[j].f from arc_t hl] at this⟩
end Rg
set_option maxRecDepth 100000 in
set_option maxHeartbeats 1000000 in
theorem pathNo_any (w : World) (g : Nat) (N : Nat) (E : List Rg.Ed) (hG : Rg.GAt w g N E) (At : Value) (a b : Int) (hab : ¬ ((0 ≤ a ∧ a < (N : Int)) ∧ (0 ≤ b ∧ b < (N : Int)))) : Calls Try.prog 59 #[.pointer (some ⟨g, 0, none⟩), At, .int .i64 a, .int .i64 b] w fun e_ w' => e_ = .returned (.tuple #[.slice none 0 0, .int .i64 0, .bool false]) ∧ Below w.heap.size w w' := by
  refine Fw.callsM Try.func59 rfl Try.ntmps59 rfl ?_
  have HM := Fw.Marks.nil w (w.heap.size)
  have HB := Below.refl (w.heap.size) w
  refine Fw.seq fun _ hK1 => ?_
  refine Fw.region ?_
  refine Fw.box rfl rfl ?_
  intro w1 gn egn Hn hb
  have lgn : w.heap.size ≤ gn := by have := HB.size; omega
  replace HM := HM.low hb
  replace HB := HB.trans (hb.mono HB.size)
  clear hb
  clear egn
  refine Fw.s (Fw.val_assign rfl) rfl ?_
  refine Fw.s (Fw.val_assign rfl) rfl ?_
  refine Fw.s (Fw.val_assign rfl) rfl ?_
  refine Fw.nil ?_
  refine hK1 _ _ ?_
  refine Fw.seq fun _ hK2 => ?_
  refine Fw.seq fun _ hK3 => ?_
  refine Fw.region ?_
  refine Fw.ld sc24 rfl (Hn.cell 0) rfl ?_
  refine Fw.s (Fw.val_move rfl) rfl ?_
  refine Fw.call cf63 rfl rfl (isNode_any _ g N E (hG.low HB) a) ?_
  rintro e_ _ ⟨rfl, rfl⟩
  refine ⟨_, rfl, ?_⟩
  refine Fw.b2 ?_ ?_
  rintro hqa
  refine Fw.s (Fw.val_not rfl) rfl ?_
  refine Fw.s (Fw.val_move rfl) rfl ?_
  refine Fw.gT (d := 24) rfl rfl ?_
  refine Fw.ld sc24 rfl (Hn.cell 0) rfl ?_
  refine Fw.gT (d := 24) rfl rfl ?_
  refine Fw.s (Fw.val_move rfl) rfl ?_
  refine Fw.gT (d := 24) rfl rfl ?_
  refine Fw.call cf63 rfl rfl (isNode_any _ g N E (hG.low HB) b) ?_
  rintro e_ _ ⟨rfl, rfl⟩
  refine ⟨_, rfl, ?_⟩
  refine Fw.bF (by exact decide_eq_false (fun h => hab ⟨of_decide_eq_true hqa, h⟩)) ?_
  refine Fw.gT (d := 24) rfl rfl ?_
  refine Fw.s (Fw.val_not rfl) rfl ?_
  refine Fw.s (Fw.val_pickF rfl rfl) rfl ?_
  refine Fw.nil ?_
  refine hK3 _ _ (Fw.FC.sub (f' := [(29, _), (4, _), (1, _), (2, _), (3, _)]) (.cons rfl (.cons rfl (.cons rfl (.cons rfl (.cons rfl .nil))))) ?_)
  refine Fw.condT rfl ?_
  refine Fw.seq fun _ hK4 => ?_
  refine Fw.region ?_
  refine Fw.s (Fw.val_assign rfl) rfl ?_
  refine Fw.s (Fw.val_assign rfl) rfl ?_
  refine Fw.s (Fw.val_assign rfl) rfl ?_
  refine Fw.nil ?_
  refine hK4 _ _ ?_
  refine Fw.ret ?_
  refine Fw.X_ret ?_
  refine Fw.retM [.tmp 8, .tmp 9, .tmp 10] [_, _, _] Try.results59 HM HB.size (fun wE hk_ hb_ => ⟨(.tmp rfl (.tmp rfl (.tmp rfl .nil))), ?_⟩)
  exact ⟨rfl, HB.trans hb_⟩
  rintro hqa
  refine Fw.s (Fw.val_not rfl) rfl ?_
  refine Fw.s (Fw.val_move rfl) rfl ?_
  refine Fw.gF (d := 24) rfl rfl rfl rfl ?_
  refine Fw.gF (d := 24) rfl rfl rfl rfl ?_
  refine Fw.gF (d := 24) rfl rfl rfl rfl ?_
  refine Fw.gF (d := 24) rfl rfl rfl rfl ?_
  refine Fw.s (Fw.val_pickT rfl rfl) rfl ?_
  refine Fw.nil ?_
  refine hK3 _ _ (Fw.FC.sub (f' := [(29, _), (4, _), (1, _), (2, _), (3, _)]) (.cons rfl (.cons rfl (.cons rfl (.cons rfl (.cons rfl .nil))))) ?_)
  refine Fw.condT rfl ?_
  refine Fw.seq fun _ hK5 => ?_
  refine Fw.region ?_
  refine Fw.s (Fw.val_assign rfl) rfl ?_
  refine Fw.s (Fw.val_assign rfl) rfl ?_
  refine Fw.s (Fw.val_assign rfl) rfl ?_
  refine Fw.nil ?_
  refine hK5 _ _ ?_
  refine Fw.ret ?_
  refine Fw.X_ret ?_
  refine Fw.retM [.tmp 8, .tmp 9, .tmp 10] [_, _, _] Try.results59 HM HB.size (fun wE hk_ hb_ => ⟨(.tmp rfl (.tmp rfl (.tmp rfl .nil))), ?_⟩)
  exact ⟨rfl, HB.trans hb_⟩

set_option maxRecDepth 100000 in
set_option maxHeartbeats 4000000 in
theorem path_any (w : World) (g : Nat) (N : Nat) (E : List Rg.Ed) (hG : Rg.GAt w g N E) (hEO : Rg.EOk N E) (hEl : E.length ≤ 65536) (hN : N ≤ 12) (A : Option Addr) (ts : List Int) (c : Nat) (h : Rd w A (ts.map (.int .i64))) (a b : Nat) (ha : a < N) (hb : b < N) (D : Nat → Int) (hD : Sp.IsDist (Sp.star (Rg.arcT N E ts false)) 8589934593 (· = b) D) : Calls Try.prog 59 #[.pointer (some ⟨g, 0, none⟩), .slice A ts.length c, .int .i64 (a : Int), .int .i64 (b : Int)] w fun e_ w' => ∃ A' c' l, e_ = .returned (.tuple #[.slice A' l.length c', .int .i64 (if D a = Sp.INF then 0 else Sp.dOf D a), .bool (decide (D a ≠ Sp.INF))]) ∧ w'.ownsRow w.heap.size 3 1 (.slice A' l.length c') l.length (Rg.ints l) ∧ (D a = Sp.INF → l = []) ∧ (D a ≠ Sp.INF → Sp.Trail (Rg.arcT N E ts false) D b a l) ∧ Below w.heap.size w w' := by
  obtain ⟨Ae, ce, Ao, co, Ai, ci, svO, svI, hg⟩ := hG
  have hG : Rg.GAt w g N E := ⟨Ae, ce, Ao, co, Ai, ci, svO, svI, hg⟩
  have hA : Sp.Arcs.Ok (Rg.arcT N E ts false) 1048576 := Rg.arcT_ok ts false hEO
  have h8 : (1048576 : Int) * 8192 + 1 < Sp.INF := by decide
  have hN' : (Rg.arcT N E ts false).N ≤ 4096 := by show N ≤ 4096; omega
  have hwl : (Rg.tts E.length ts).length = E.length := Rg.tts_len _ _
  have hsl : ((Rg.tts E.length ts).map Sp.st).length = (Rg.tts E.length ts).length := List.length_map ..
  refine Fw.callsM Try.func59 rfl Try.ntmps59 rfl ?_
  have HM := Fw.Marks.nil w (w.heap.size)
  have HB := Below.refl (w.heap.size) w
  refine Fw.seq fun _ hK1 => ?_
  refine Fw.region ?_
  refine Fw.box rfl rfl ?_
  intro w1 gn egn Hn hb
  have lgn : w.heap.size ≤ gn := by have := HB.size; omega
  replace HM := HM.low hb
  replace HB := HB.trans (hb.mono HB.size)
  clear hb
  clear egn
  refine Fw.s (Fw.val_assign rfl) rfl ?_
  refine Fw.s (Fw.val_assign rfl) rfl ?_
  refine Fw.s (Fw.val_assign rfl) rfl ?_
  refine Fw.nil ?_
  refine hK1 _ _ ?_
  refine Fw.seq fun _ hK2 => ?_
  refine Fw.seq fun _ hK3 => ?_
  refine Fw.region ?_
  refine Fw.ld sc24 rfl (Hn.cell 0) rfl ?_
  refine Fw.s (Fw.val_move rfl) rfl ?_
  refine Fw.call cf63 rfl rfl (isNode_any _ g N E (hG.low HB) a) ?_
  rintro e_ _ ⟨rfl, rfl⟩
  refine ⟨_, rfl, ?_⟩
  refine Fw.bT (by exact decide_eq_true ⟨by omega, by omega⟩) ?_
  refine Fw.s (Fw.val_not rfl) rfl ?_
  refine Fw.s (Fw.val_move rfl) rfl ?_
  refine Fw.gT (d := 24) rfl rfl ?_
  refine Fw.ld sc24 rfl (Hn.cell 0) rfl ?_
  refine Fw.gT (d := 24) rfl rfl ?_
  refine Fw.s (Fw.val_move rfl) rfl ?_
  refine Fw.gT (d := 24) rfl rfl ?_
  refine Fw.call cf63 rfl rfl (isNode_any _ g N E (hG.low HB) b) ?_
  rintro e_ _ ⟨rfl, rfl⟩
  refine ⟨_, rfl, ?_⟩
  refine Fw.bT (by exact decide_eq_true ⟨by omega, by omega⟩) ?_
  refine Fw.gT (d := 24) rfl rfl ?_
  refine Fw.s (Fw.val_not rfl) rfl ?_
  refine Fw.s (Fw.val_pickF rfl rfl) rfl ?_
  refine Fw.nil ?_
  refine hK3 _ _ (Fw.FC.sub (f' := [(29, _), (4, _), (1, _), (2, _), (3, _)]) (.cons rfl (.cons rfl (.cons rfl (.cons rfl (.cons rfl .nil))))) ?_)
  refine Fw.condF rfl ?_
  refine Fw.skip ?_
  refine hK2 _ _ ?_
  refine Fw.seq fun _ hK4 => ?_
  refine Fw.region ?_
  refine Fw.ld sc24 rfl (Hn.cell 0) rfl ?_
  refine Fw.s (Fw.val_move rfl) rfl ?_
  refine Fw.call cf64 rfl rfl (travelTimes_any _ g N E (hG.low HB) hEl A ts c (h.low HB)) ?_
  rintro e_ w2 ⟨gT, cT, rfl, HT, hb⟩
  refine ⟨_, rfl, ?_⟩
  have hzB := HB.size
  have hnl := Hn.lt
  replace HM := HM.low hb
  replace Hn := Hn.low hb
  replace HB := HB.trans (hb.mono HB.size)
  clear hb
  have n_gn_gT : gn < gT := by have := (HT.lt gT rfl).1; omega
  replace HT := own_base (B := w.heap.size) HT hzB
  have lgT := (HT.lt gT rfl).1
  refine Fw.alloc ze123 rfl ?_
  intro w3 gx egx Hx hb
  have n_gT_gx : gT < gx := by have := (HT.lt gT rfl).2; omega
  have n_gn_gx : gn < gx := by have := Hn.lt; omega
  have lgx : w.heap.size ≤ gx := by have := HB.size; omega
  replace HM := HM.low hb
  replace Hn := Hn.low hb
  replace HT := own_below HT hb (Nat.le_refl _)
  replace HB := HB.trans (hb.mono HB.size)
  clear hb
  clear egx
  refine Fw.store sz123 rfl rfl Hx rfl rfl rfl ?_
  intro w4 N_ hc
  replace HM := HM.keep (Fw.kf_chg hc Hx).mono_
  replace Hn := Hn.chg hc (by omega)
  replace HT := own_to HT hc (fun g_ h_ e_ => by injection h_ with h_; have h_ : gT = g_ := h_; have e_ : g_ = gx := e_; omega)
  replace HB := HB.trans (hc.below (B := w.heap.size) (fun k e => by omega) HB.size)
  clear hc
  clear Hx
  have Hx := N_
  clear N_
  replace Hx : Blk w4 gx 123 #[.slice (some ⟨gT, 0, none⟩) E.length cT] := Hx
  refine Fw.nil ?_
  refine hK4 _ _ ?_
  refine Fw.seq fun _ hK5 => ?_
  refine Fw.seq fun _ hK6 => ?_
  refine Fw.region ?_
  refine Fw.ld sc123 rfl (Hx.cell 0) rfl ?_
  refine Fw.s (Fw.val_len Try.underlying123 rfl) rfl ?_
  refine Fw.s (Fw.val_move rfl) rfl ?_
  refine Fw.nil ?_
  refine hK6 _ _ ?_
  refine Fw.block ?_
  replace HT : World.ownsRow w4 w.heap.size 2 1 (.slice (some ⟨gT, 0, none⟩) E.length cT) E.length ((Fw.mix ((Rg.tts E.length ts).map Sp.st) (Rg.tts E.length ts) 0).map (.int .i64)) := by rw [Fw.mix_zero]; exact HT
  refine Fw.loop (fun m_ f_ W_ => ∃ (k : Nat), m_ = E.length - k ∧ k ≤ E.length ∧ Fw.Marks W_ w.heap.size [] ∧ Blk W_ gn 24 #[.pointer (some ⟨g, 0, none⟩)] ∧ World.ownsRow W_ w.heap.size 2 1 (.slice (some ⟨gT, 0, none⟩) E.length cT) E.length ((Fw.mix ((Rg.tts E.length ts).map Sp.st) (Rg.tts E.length ts) k).map (.int .i64)) ∧ Blk W_ gx 123 #[.slice (some ⟨gT, 0, none⟩) E.length cT] ∧ Below (w.heap.size) w W_ ∧ f_ = [(35, .int .i64 k), (34, .int .i64 E.length), (33, .slice (some ⟨gT, 0, none⟩) E.length cT), (11, .pointer (some ⟨gx, 0, none⟩)), (4, .pointer (some ⟨gn, 0, none⟩)), (2, .int .i64 (a : Int)), (3, .int .i64 (b : Int))]) ⟨_, _, ⟨0, rfl, Nat.zero_le _, HM, Hn, HT, Hx, HB, rfl⟩, (.cons rfl (.cons rfl (.cons rfl (.cons rfl (.cons rfl (.cons rfl (.cons rfl .nil)))))))⟩ ?_
  clear HM Hn HT Hx HB
  rintro m7_ _ w5 ⟨k, hm7_, hkn, HM, Hn, HT, Hx, HB, rfl⟩
  refine Fw.seq fun _ hK8 => ?_
  refine Fw.region ?_
  refine Fw.s2 (Fw.val_bin rfl rfl Fw.b_lss) rfl ?_ ?_
  rintro hk1
  refine Fw.nil ?_
  refine hK8 _ _ ?_
  refine Fw.seq fun _ hK10 => ?_
  refine Fw.condT rfl ?_
  refine Fw.skip ?_
  refine hK10 _ _ ?_
  refine Fw.seq fun _ hK11 => ?_
  refine Fw.block ?_
  refine Fw.seq fun _ hK12 => ?_
  have hkN : k < E.length := by omega
  have hmk : k < (Fw.mix ((Rg.tts E.length ts).map Sp.st) (Rg.tts E.length ts) k).length := by rw [Fw.mix_len hsl]; omega
  have hwk : k < (Rg.tts E.length ts).length := by omega
  have htk : (Rg.tts E.length ts)[k] = Rg.tt ts k := by rw [← Sp.ix_get hwk, Rg.tts_ix ts hkN]
  have htb : Rg.tt ts k = 4611686018427387904 ∨ (1 ≤ Rg.tt ts k ∧ Rg.tt ts k ≤ 1048576) := Rg.tt_bd ts k
  refine Fw.region ?_
  refine Fw.s (Fw.val_move rfl) rfl ?_
  have HC_ := Rg.own_cell HT _ hmk
  refine Fw.s (Fw.val_indexR Try.underlying123 sz2 rfl rfl rfl rfl hkN (by rw [Fw.add_flat, Nat.zero_add, Nat.mul_one])) rfl ?_
  refine Fw.ld sc2 rfl (HC_) rfl ?_
  rw [Fw.mix_get hsl (by omega)]
  refine Fw.s (Fw.val_assign rfl) rfl ?_
  refine Fw.s (Fw.val_assign rfl) rfl ?_
  refine Fw.nil ?_
  refine hK12 _ _ ?_
  refine Fw.seq fun _ hK14 => ?_
  refine Fw.region ?_
  refine Fw.s (Fw.val_move rfl) rfl ?_
  refine Fw.s2 (Fw.val_bin rfl rfl Fw.b_neq) rfl ?_ ?_
  rintro hqw
  refine Fw.nil ?_
  refine hK14 _ _ ?_
  refine Fw.condT rfl ?_
  refine Fw.region ?_
  refine Fw.ld sc123 rfl (Hx.cell 0) rfl ?_
  refine Fw.s (Fw.val_move rfl) rfl ?_
  refine Fw.s (Fw.val_move rfl) rfl ?_
  refine Fw.s (Fw.val_bin rfl rfl (Fw.b_mul (Fw.i64_ok (by omega)))) rfl ?_
  refine Fw.s (Fw.val_bin rfl rfl (Fw.b_add (Fw.i64_ok (by omega)))) rfl ?_
  have EW16 := True.intro
  refine Fw.s (Fw.val_indexR Try.underlying123 sz2 rfl rfl rfl rfl hkN (by rw [Fw.add_flat, Nat.zero_add, Nat.mul_one])) rfl ?_
  refine Fw.storeR sz2 rfl rfl HT (by simpa using hmk) rfl rfl ?_
  intro w6 N_ hc
  replace HM := HM.keep (Fw.kf_row hc HT).mono_
  replace Hn := Hn.chg hc (by omega)
  replace Hx := Hx.chg hc (by omega)
  replace HB := HB.trans (hc.below (B := w.heap.size) (fun k e => by omega) HB.size)
  clear hc
  clear HT EW16
  have HT := N_
  clear N_
  replace HT : World.ownsRow w6 w.heap.size 2 1 (.slice (some ⟨gT, 0, none⟩) E.length cT) E.length ((Fw.mix ((Rg.tts E.length ts).map Sp.st) (Rg.tts E.length ts) (k + 1)).map (.int .i64)) := by
    have e : ((Rg.tts E.length ts).map Sp.st)[k]'(by omega) = (Rg.tts E.length ts)[k] * 8192 + 1 := by rw [List.getElem_map]; exact Sp.st_in (by show ¬ _ = (4611686018427387904 : Int); omega)
    rw [← Fw.mix_set hsl hwk, e]; simpa using HT
  refine Fw.nil ?_
  refine Fw.X_blockN ?_
  refine hK11 _ _ (Fw.FC.sub (f' := [(35, _), (34, _), (33, _), (11, _), (4, _), (2, _), (3, _)]) (.cons rfl (.cons rfl (.cons rfl (.cons rfl (.cons rfl (.cons rfl (.cons rfl .nil))))))) ?_)
  refine Fw.region ?_
  refine Fw.s (Fw.val_bin rfl rfl (Fw.b_add (Fw.i64_ok (by omega)))) rfl ?_
  refine Fw.s (Fw.val_move rfl) rfl ?_
  refine Fw.nil ?_
  refine Fw.roundEnd _ _ (by omega) ⟨k + 1, rfl, by omega, HM, Hn, HT, Hx, HB, rfl⟩ (.cons rfl (.cons rfl (.cons rfl (.cons rfl (.cons rfl (.cons rfl (.cons rfl .nil)))))))
  rintro hqw
  refine Fw.nil ?_
  refine hK14 _ _ ?_
  refine Fw.condF rfl ?_
  refine Fw.skip ?_
  refine Fw.X_blockN ?_
  refine hK11 _ _ (Fw.FC.sub (f' := [(35, _), (34, _), (33, _), (11, _), (4, _), (2, _), (3, _)]) (.cons rfl (.cons rfl (.cons rfl (.cons rfl (.cons rfl (.cons rfl (.cons rfl .nil))))))) ?_)
  refine Fw.region ?_
  refine Fw.s (Fw.val_bin rfl rfl (Fw.b_add (Fw.i64_ok (by omega)))) rfl ?_
  refine Fw.s (Fw.val_move rfl) rfl ?_
  refine Fw.nil ?_
  have hz : (Rg.tts E.length ts)[k] = (4611686018427387904 : Int) := by omega
  rw [Fw.mix_same hsl (by omega) (by rw [List.getElem_map, hz]; exact Sp.st_inf rfl)] at HT
  refine Fw.roundEnd _ _ (by omega) ⟨k + 1, rfl, by omega, HM, Hn, HT, Hx, HB, rfl⟩ (.cons rfl (.cons rfl (.cons rfl (.cons rfl (.cons rfl (.cons rfl (.cons rfl .nil)))))))
  rintro hk1
  refine Fw.nil ?_
  refine hK8 _ _ ?_
  refine Fw.seq fun _ hK18 => ?_
  refine Fw.condF rfl ?_
  refine Fw.exit ?_
  refine Fw.X_exit ?_
  refine Fw.X_exit ?_
  refine Fw.X_block ?_
  refine hK5 _ _ ?_
  refine Fw.seq fun _ hK19 => ?_
  have hk_ : k = E.length := by omega
  rw [Fw.mix_all hsl (by omega)] at HT
  refine Fw.region ?_
  refine Fw.ld sc24 rfl (Hn.cell 0) rfl ?_
  refine Fw.ld sc123 rfl (Hx.cell 0) rfl ?_
  refine Fw.s (Fw.val_move rfl) rfl ?_
  refine Fw.buildSlice [_] sl47 rfl rfl (by exact Fw.allSz rfl) (by decide) rfl ?_
  intro w7 gS52 egS52 HS52 hb
  have n_gn_gS52 : gn < gS52 := by have := Hn.lt; omega
  have n_gx_gS52 : gx < gS52 := by have := Hx.lt; omega
  have lgS52 : w.heap.size ≤ gS52 := by have := HB.size; omega
  replace HM := HM.low hb
  replace Hn := Hn.low hb
  replace HT := own_below HT hb (Nat.le_refl _)
  replace Hx := Hx.low hb
  replace HB := HB.trans (hb.mono HB.size)
  clear hb
  clear egS52
  refine Fw.call cf65 rfl rfl (searchT_any _ g N E (hG.low HB) hEl (some ⟨gT, 0, none⟩) ((Rg.tts E.length ts).map Sp.st) cT (Rd.of_own HT) 8589934593 (by decide) (Rg.wok_st E ts) (by omega) hEO (by omega) (Rg.nkS hN) (by decide) (some ⟨gS52, 0, none⟩) [(b : Int)] 1 (by simp) (show Rd _ _ [.int .i64 (b : Int)] from Fw.rdBlk HS52)) ?_
  rintro e_ w8 ⟨AD, cD, dl, rfl, HD, hdn, hdist, hb⟩
  refine ⟨_, rfl, ?_⟩
  have hzB := HB.size
  have hTl := (HT.lt gT rfl).2
  replace HM := HM.low hb
  replace Hn := Hn.low hb
  replace HT := own_below HT hb (Nat.le_refl _)
  replace Hx := Hx.low hb
  replace HS52 := HS52.low hb
  replace HB := HB.trans (hb.mono HB.size)
  clear hb
  obtain ⟨gD, rfl, hgD, _⟩ := Fw.own_form0 HD (by omega)
  have n_gT_gD : gT < gD := by omega
  replace HD := own_base (B := w.heap.size) HD hzB
  have lgD := (HD.lt gD rfl).1
  clear HS52
  have hdl : ∀ v, v < N → Sp.ix dl v = D v := Sp.IsDist.unique (Rg.arcs_ok hEO (Rg.wok_st E ts)) (hdist.src (fun v _ => by rw [List.mem_singleton]; omega)) (Rg.star_arcs hD)
  have had : a < dl.length := by omega
  have haD : dl[a] = D a := by rw [← hdl a ha, Sp.ix_get had]
  have hDa0 := hD.lo.pos a ha
  have I : (Sp.INF : Int) = 4611686018427387904 := rfl
  refine Fw.alloc ze123 rfl ?_
  intro w9 gd egd Hd hb
  have n_gD_gd : gD < gd := by have := (HD.lt gD rfl).2; omega
  have n_gT_gd : gT < gd := by have := (HT.lt gT rfl).2; omega
  have n_gn_gd : gn < gd := by have := Hn.lt; omega
  have n_gx_gd : gx < gd := by have := Hx.lt; omega
  have lgd : w.heap.size ≤ gd := by have := HB.size; omega
  replace HM := HM.low hb
  replace Hn := Hn.low hb
  replace HT := own_below HT hb (Nat.le_refl _)
  replace Hx := Hx.low hb
  replace HD := own_below HD hb (Nat.le_refl _)
  replace HB := HB.trans (hb.mono HB.size)
  clear hb
  clear egd
  refine Fw.store sz123 rfl rfl Hd rfl rfl rfl ?_
  intro w10 N_ hc
  replace HM := HM.keep (Fw.kf_chg hc Hd).mono_
  replace Hn := Hn.chg hc (by omega)
  replace HT := own_to HT hc (fun g_ h_ e_ => by injection h_ with h_; have h_ : gT = g_ := h_; have e_ : g_ = gd := e_; omega)
  replace Hx := Hx.chg hc (by omega)
  replace HD := own_to HD hc (fun g_ h_ e_ => by injection h_ with h_; have h_ : gD = g_ := h_; have e_ : g_ = gd := e_; omega)
  replace HB := HB.trans (hc.below (B := w.heap.size) (fun k e => by omega) HB.size)
  clear hc
  clear Hd
  have Hd := N_
  clear N_
  replace Hd : Blk w10 gd 123 #[.slice (some ⟨gD, 0, none⟩) N cD] := Hd
  refine Fw.nil ?_
  refine hK19 _ _ (Fw.FC.sub (f' := [(14, _), (11, _), (4, _), (2, _), (3, _)]) (.cons rfl (.cons rfl (.cons rfl (.cons rfl (.cons rfl .nil))))) ?_)
  refine Fw.seq fun _ hK20 => ?_
  refine Fw.seq fun _ hK21 => ?_
  refine Fw.region ?_
  refine Fw.ld sc123 rfl (Hd.cell 0) rfl ?_
  refine Fw.s (Fw.val_move rfl) rfl ?_
  have HC0 := Rg.own_cell HD _ had
  refine Fw.s (Fw.val_indexR Try.underlying123 sz2 rfl rfl rfl rfl ha (by rw [Fw.add_flat, Nat.zero_add, Nat.mul_one])) rfl ?_
  refine Fw.ld sc2 rfl (HC0) rfl ?_
  refine Fw.s2 (Fw.val_bin rfl rfl Fw.b_eql) rfl ?_ ?_
  rintro hq0
  refine Fw.nil ?_
  refine hK21 _ _ ?_
  refine Fw.condT rfl ?_
  refine Fw.seq fun _ hK24 => ?_
  refine Fw.region ?_
  refine Fw.s (Fw.val_assign rfl) rfl ?_
  refine Fw.s (Fw.val_assign rfl) rfl ?_
  refine Fw.s (Fw.val_assign rfl) rfl ?_
  refine Fw.nil ?_
  refine hK24 _ _ (Fw.FC.sub (f' := [(10, _), (9, _), (8, _)]) (.cons rfl (.cons rfl (.cons rfl .nil))) ?_)
  refine Fw.ret ?_
  refine Fw.X_ret ?_
  refine Fw.retM [.tmp 8, .tmp 9, .tmp 10] [_, _, _] Try.results59 HM HB.size (fun wE hk_ hb_ => ⟨(.tmp rfl (.tmp rfl (.tmp rfl .nil))), ?_⟩)
  have hDa : D a = Sp.INF := by rw [← haD]; exact hq0
  exact ⟨none, 0, [], by rw [if_pos hDa, decide_eq_false (fun hh => hh hDa)]; rfl, ⟨rfl, .inl ⟨rfl, rfl⟩⟩, fun _ => rfl, fun hh => absurd hDa hh, HB.trans hb_⟩
  rintro hq0
  refine Fw.nil ?_
  refine hK21 _ _ ?_
  refine Fw.condF rfl ?_
  refine Fw.skip ?_
  refine hK20 _ _ ?_
  refine Fw.seq fun _ hK25 => ?_
  refine Fw.region ?_
  refine Fw.alloc ze47 rfl ?_
  intro w11 gy egy Hy hb
  have n_gD_gy : gD < gy := by have := (HD.lt gD rfl).2; omega
  have n_gT_gy : gT < gy := by have := (HT.lt gT rfl).2; omega
  have n_gn_gy : gn < gy := by have := Hn.lt; omega
  have n_gx_gy : gx < gy := by have := Hx.lt; omega
  have n_gd_gy : gd < gy := by have := Hd.lt; omega
  have lgy : w.heap.size ≤ gy := by have := HB.size; omega
  clear HC0
  replace HM := HM.low hb
  replace Hn := Hn.low hb
  replace HT := own_below HT hb (Nat.le_refl _)
  replace Hx := Hx.low hb
  replace HD := own_below HD hb (Nat.le_refl _)
  replace Hd := Hd.low hb
  replace HB := HB.trans (hb.mono HB.size)
  clear hb
  clear egy
  refine Fw.nil ?_
  refine hK25 _ _ ?_
  refine Fw.seq fun _ hK26 => ?_
  refine Fw.seq fun _ hK27 => ?_
  refine Fw.region ?_
  refine Fw.s (Fw.val_move rfl) rfl ?_
  refine Fw.alloc ze3 rfl ?_
  intro w12 gv egv Hv hb
  have n_gD_gv : gD < gv := by have := (HD.lt gD rfl).2; omega
  have n_gT_gv : gT < gv := by have := (HT.lt gT rfl).2; omega
  have n_gn_gv : gn < gv := by have := Hn.lt; omega
  have n_gx_gv : gx < gv := by have := Hx.lt; omega
  have n_gd_gv : gd < gv := by have := Hd.lt; omega
  have n_gy_gv : gy < gv := by have := Hy.lt; omega
  have lgv : w.heap.size ≤ gv := by have := HB.size; omega
  replace HM := HM.low hb
  replace Hn := Hn.low hb
  replace HT := own_below HT hb (Nat.le_refl _)
  replace Hx := Hx.low hb
  replace HD := own_below HD hb (Nat.le_refl _)
  replace Hd := Hd.low hb
  replace Hy := Hy.low hb
  replace HB := HB.trans (hb.mono HB.size)
  clear hb
  clear egv
  refine Fw.store sz3 rfl rfl Hv rfl rfl rfl ?_
  intro w13 N_ hc
  replace HM := HM.keep (Fw.kf_chg hc Hv).mono_
  replace Hn := Hn.chg hc (by omega)
  replace HT := own_to HT hc (fun g_ h_ e_ => by injection h_ with h_; have h_ : gT = g_ := h_; have e_ : g_ = gv := e_; omega)
  replace Hx := Hx.chg hc (by omega)
  replace HD := own_to HD hc (fun g_ h_ e_ => by injection h_ with h_; have h_ : gD = g_ := h_; have e_ : g_ = gv := e_; omega)
  replace Hd := Hd.chg hc (by omega)
  replace Hy := Hy.chg hc (by omega)
  replace HB := HB.trans (hc.below (B := w.heap.size) (fun k e => by omega) HB.size)
  clear hc
  clear Hv
  have Hv := N_
  clear N_
  replace Hv : Blk w13 gv 3 #[.int .i64 (a : Int)] := Hv
  refine Fw.nil ?_
  refine hK27 _ _ ?_
  refine Fw.block ?_
  have HO : w13.ownsRow w.heap.size 3 1 (.slice none ([] : List Nat).length 0) ([] : List Nat).length (Rg.ints []) := ⟨rfl, .inl ⟨rfl, rfl⟩⟩
  refine Fw.loopM (fun m_ ds_ f_ W_ => ∃ (v : Nat) (acc : List Nat) (A_ : Option Addr) (c_ : Nat) (gv : Nat), m_ = (D v).toNat ∧ v < N ∧ D v ≠ Sp.INF ∧ (∀ l, Sp.Trail (Rg.arcT N E ts false) D b v l → Sp.Trail (Rg.arcT N E ts false) D b a (acc ++ l)) ∧ (acc.length : Int) + Sp.fOf D v ≤ 12 ∧ (∀ k_, A_.map (·.block) = some k_ → ¬ k_ = gv) ∧ (gn < gv ∧ gx < gv ∧ gd < gv ∧ gy < gv ∧ gT < gv ∧ gD < gv ∧ w.heap.size ≤ gv) ∧ Blk W_ gn 24 #[.pointer (some ⟨g, 0, none⟩)] ∧ World.ownsRow W_ w.heap.size 2 1 (.slice (some ⟨gT, 0, none⟩) E.length cT) E.length (((Rg.tts E.length ts).map Sp.st).map (.int .i64)) ∧ Blk W_ gx 123 #[.slice (some ⟨gT, 0, none⟩) E.length cT] ∧ World.ownsRow W_ w.heap.size 2 1 (.slice (some ⟨gD, 0, none⟩) N cD) N (dl.map (.int .i64)) ∧ Blk W_ gd 123 #[.slice (some ⟨gD, 0, none⟩) N cD] ∧ Blk W_ gy 47 #[.slice A_ acc.length c_] ∧ Blk W_ gv 3 #[.int .i64 (v : Int)] ∧ World.ownsRow W_ w.heap.size 3 1 (.slice A_ acc.length c_) acc.length (Rg.ints acc) ∧ Below (w.heap.size) w W_ ∧ f_ = [(16, .pointer (some ⟨gv, 0, none⟩)), (15, .pointer (some ⟨gy, 0, none⟩)), (14, .pointer (some ⟨gd, 0, none⟩)), (11, .pointer (some ⟨gx, 0, none⟩)), (4, .pointer (some ⟨gn, 0, none⟩)), (2, .int .i64 (a : Int)), (3, .int .i64 (b : Int))] ∧ Fw.Marks W_ (w.heap.size) ds_) ⟨_, _, ⟨a, [], none, 0, gv, rfl, ha, (fun e => hq0 (by rw [haD]; exact e)), (fun _ h => h), (by have : Sp.fOf D a < (N : Int) := (Sp.dig hA h8 hN' hb hD ha (fun e => hq0 (by rw [haD]; exact e))).2.2.2.1; show (0 : Int) + _ ≤ 12; omega), (fun k_ hk_ => by cases hk_), ⟨by omega, by omega, by omega, by omega, by omega, by omega, by omega⟩, Hn, HT, Hx, HD, Hd, Hy, Hv, HO, HB, rfl, HM⟩, (.cons rfl (.cons rfl (.cons rfl (.cons rfl (.cons rfl (.cons rfl (.cons rfl .nil)))))))⟩ ?_
  clear HM
  clear Hn HT Hx HD Hd Hy Hv HO HB
  rintro m28_ ds_ _ w14 ⟨v, acc, A_, c_, gv, hm28_, hvN, hvf, htr, hal, hgA, hlv, Hn, HT, Hx, HD, Hd, Hy, Hv, HO, HB, rfl, HM⟩
  refine Fw.seq fun _ hK29 => ?_
  refine Fw.seq fun _ hK30 => ?_
  refine Fw.region ?_
  refine Fw.ld sc3 rfl (Hv.cell 0) rfl ?_
  refine Fw.s (Fw.val_move rfl) rfl ?_
  refine Fw.s2 (Fw.val_bin rfl rfl Fw.b_neq) rfl ?_ ?_
  rintro hv1
  refine Fw.nil ?_
  refine hK30 _ _ ?_
  refine Fw.condT rfl ?_
  refine Fw.skip ?_
  refine hK29 _ _ ?_
  refine Fw.seq fun _ hK32 => ?_
  refine Fw.block ?_
  refine Fw.seq fun _ hK33 => ?_
  obtain ⟨Bv, cv, hsv, hxv⟩ := hg.out.2 v hvN
  refine Fw.region ?_
  refine Fw.ld sc24 rfl (Hn.cell 0) rfl ?_
  refine Fw.ld sc3 rfl (Hv.cell 0) rfl ?_
  refine Fw.call cf66 rfl rfl (outEdges_any _ g N E Ae ce Ao co Ai ci svO svI (hg.low HB) v) ?_
  rintro e_ w15 ⟨gl, gw, rfl, HGL, HGV, hb⟩
  refine ⟨_, rfl, ?_⟩
  replace HM := HM.low hb
  replace Hn := Hn.low hb
  replace HT := own_below HT hb (Nat.le_refl _)
  replace Hx := Hx.low hb
  replace HD := own_below HD hb (Nat.le_refl _)
  replace Hd := Hd.low hb
  replace Hy := Hy.low hb
  replace Hv := Hv.low hb
  replace HO := own_below HO hb (Nat.le_refl _)
  replace HB := HB.trans (hb.mono HB.size)
  clear hb
  refine Fw.nil ?_
  refine hK33 _ _ ?_
  refine Fw.block ?_
  have hBr_ : w.heap.size ≤ w15.heap.size := HB.size
  refine Fw.range (enc := fun (x : {i // i ∈ Rg.adj Rg.Ed.f E v}) => .int .i64 (x.val : Int)) (n₀ := w.heap.size) rfl cf73 rfl rfl rfl (enum_stops (fun (x : {i // i ∈ Rg.adj Rg.Ed.f E v}) => x.val) (Rg.adj Rg.Ed.f E v).attach w w15 gw gl v Ao N co svO Bv cv (by rw [List.length_attach]; exact Nat.le_trans Rg.adj_len hEl) HB HGL HGV hvN hg.out.1 (List.getElem?_eq_some_iff.1 hsv).1 (by rw [List.length_attach]; exact (List.getElem?_eq_some_iff.1 hsv).2) (by rw [← Rg.ints_val]; exact hxv)) (Below.refl _ _) hBr_
    (fun (pre_ : List {i // i ∈ Rg.adj Rg.Ed.f E v}) W_ => (∀ y ∈ pre_, ¬ Sp.Next (Rg.arcT N E ts false) D v y.val) ∧ Blk W_ gn 24 #[.pointer (some ⟨g, 0, none⟩)] ∧ World.ownsRow W_ w.heap.size 2 1 (.slice (some ⟨gT, 0, none⟩) E.length cT) E.length (((Rg.tts E.length ts).map Sp.st).map (.int .i64)) ∧ Blk W_ gx 123 #[.slice (some ⟨gT, 0, none⟩) E.length cT] ∧ World.ownsRow W_ w.heap.size 2 1 (.slice (some ⟨gD, 0, none⟩) N cD) N (dl.map (.int .i64)) ∧ Blk W_ gd 123 #[.slice (some ⟨gD, 0, none⟩) N cD] ∧ Blk W_ gy 47 #[.slice A_ acc.length c_] ∧ Blk W_ gv 3 #[.int .i64 (v : Int)] ∧ World.ownsRow W_ w.heap.size 3 1 (.slice A_ acc.length c_) acc.length (Rg.ints acc) ∧ Below (w.heap.size) w W_)
    (fun (c_ : Code) (pre_ : List {i // i ∈ Rg.adj Rg.Ed.f E v}) W_ => (c_ = .exit 4 ∧ ∃ (p0 : List {i // i ∈ Rg.adj Rg.Ed.f E v}) (x : {i // i ∈ Rg.adj Rg.Ed.f E v}) (hxi : x.val < E.length) (A2_ : Option Addr) (c2_ : Nat), pre_ = p0 ++ [x] ∧ Sp.Next (Rg.arcT N E ts false) D v x.val ∧ (∀ y ∈ p0, ¬ Sp.Next (Rg.arcT N E ts false) D v y.val) ∧ (∀ k_, A2_.map (·.block) = some k_ → ¬ k_ = gv) ∧ Blk W_ gn 24 #[.pointer (some ⟨g, 0, none⟩)] ∧ Blk W_ gx 123 #[.slice (some ⟨gT, 0, none⟩) E.length cT] ∧ Blk W_ gd 123 #[.slice (some ⟨gD, 0, none⟩) N cD] ∧ World.ownsRow W_ w.heap.size 2 1 (.slice (some ⟨gT, 0, none⟩) E.length cT) E.length (((Rg.tts E.length ts).map Sp.st).map (.int .i64)) ∧ World.ownsRow W_ w.heap.size 2 1 (.slice (some ⟨gD, 0, none⟩) N cD) N (dl.map (.int .i64)) ∧ Blk W_ gy 47 #[.slice A2_ (acc ++ [x.val]).length c2_] ∧ World.ownsRow W_ w.heap.size 3 1 (.slice A2_ (acc ++ [x.val]).length c2_) (acc ++ [x.val]).length (Rg.ints (acc ++ [x.val])) ∧ Blk W_ gv 3 #[.int .i64 (E[x.val].t : Int)] ∧ Below (w.heap.size) w W_))
    ?hI ?hIx ?h0 ?body ?done ?stop
  case hI =>
    exact Fw.ownFrom_rng hBr_ (fun p_ W_ h_ => by
      obtain ⟨hno, Hn, HT, Hx, HD, Hd, Hy, Hv, HO, HB⟩ := h_
      exact HB.size) (fun p_ W_ W1_ h_ hk_ hb_ => by
      obtain ⟨hno, Hn, HT, Hx, HD, Hd, Hy, Hv, HO, HB⟩ := h_
      exact ⟨hno, Hn.kp hk_ rfl, Fw.own_kp HT hk_ rfl, Hx.kp hk_ rfl, Fw.own_kp HD hk_ rfl, Hd.kp hk_ rfl, Hy.kp hk_ rfl, Hv.kp hk_ rfl, Fw.own_kp HO hk_ rfl, HB.trans hb_⟩)
  case hIx =>
    exact fun c_ => Fw.ownFrom_rng hBr_ (fun p_ W_ h_ => by
      obtain ⟨hc_, p0, x, hxi, A2_, c2_, hys, hnx, hno, hgA2_, Hn, Hx, Hd, HT, HD, Hy, HO, Hv, HB⟩ := h_
      exact HB.size) (fun p_ W_ W1_ h_ hk_ hb_ => by
      obtain ⟨hc_, p0, x, hxi, A2_, c2_, hys, hnx, hno, hgA2_, Hn, Hx, Hd, HT, HD, Hy, HO, Hv, HB⟩ := h_
      exact ⟨hc_, p0, x, hxi, A2_, c2_, hys, hnx, hno, hgA2_, Hn.kp hk_ rfl, Hx.kp hk_ rfl, Hd.kp hk_ rfl, Fw.own_kp HT hk_ rfl, Fw.own_kp HD hk_ rfl, Hy.kp hk_ rfl, Fw.own_kp HO hk_ rfl, Hv.kp hk_ rfl, HB.trans hb_⟩)
  case h0 => exact ⟨(fun y hy => by cases hy), Hn, HT, Hx, HD, Hd, Hy, Hv, HO, HB⟩
  case body =>
    clear Hn HT Hx HD Hd Hy Hv HO HB
    intro pre x w16 hsz_
    rintro ⟨hno, Hn, HT, Hx, HD, Hd, Hy, Hv, HO, HB⟩ hlen_
    have hLO : Fw.NL (Fw.rpost (w.heap.size) (fun (pre_ : List {i // i ∈ Rg.adj Rg.Ed.f E v}) W_ => (∀ y ∈ pre_, ¬ Sp.Next (Rg.arcT N E ts false) D v y.val) ∧ Blk W_ gn 24 #[.pointer (some ⟨g, 0, none⟩)] ∧ World.ownsRow W_ w.heap.size 2 1 (.slice (some ⟨gT, 0, none⟩) E.length cT) E.length (((Rg.tts E.length ts).map Sp.st).map (.int .i64)) ∧ Blk W_ gx 123 #[.slice (some ⟨gT, 0, none⟩) E.length cT] ∧ World.ownsRow W_ w.heap.size 2 1 (.slice (some ⟨gD, 0, none⟩) N cD) N (dl.map (.int .i64)) ∧ Blk W_ gd 123 #[.slice (some ⟨gD, 0, none⟩) N cD] ∧ Blk W_ gy 47 #[.slice A_ acc.length c_] ∧ Blk W_ gv 3 #[.int .i64 (v : Int)] ∧ World.ownsRow W_ w.heap.size 3 1 (.slice A_ acc.length c_) acc.length (Rg.ints acc) ∧ Below (w.heap.size) w W_) (fun (c_ : Code) (pre_ : List {i // i ∈ Rg.adj Rg.Ed.f E v}) W_ => (c_ = .exit 4 ∧ ∃ (p0 : List {i // i ∈ Rg.adj Rg.Ed.f E v}) (x : {i // i ∈ Rg.adj Rg.Ed.f E v}) (hxi : x.val < E.length) (A2_ : Option Addr) (c2_ : Nat), pre_ = p0 ++ [x] ∧ Sp.Next (Rg.arcT N E ts false) D v x.val ∧ (∀ y ∈ p0, ¬ Sp.Next (Rg.arcT N E ts false) D v y.val) ∧ (∀ k_, A2_.map (·.block) = some k_ → ¬ k_ = gv) ∧ Blk W_ gn 24 #[.pointer (some ⟨g, 0, none⟩)] ∧ Blk W_ gx 123 #[.slice (some ⟨gT, 0, none⟩) E.length cT] ∧ Blk W_ gd 123 #[.slice (some ⟨gD, 0, none⟩) N cD] ∧ World.ownsRow W_ w.heap.size 2 1 (.slice (some ⟨gT, 0, none⟩) E.length cT) E.length (((Rg.tts E.length ts).map Sp.st).map (.int .i64)) ∧ World.ownsRow W_ w.heap.size 2 1 (.slice (some ⟨gD, 0, none⟩) N cD) N (dl.map (.int .i64)) ∧ Blk W_ gy 47 #[.slice A2_ (acc ++ [x.val]).length c2_] ∧ World.ownsRow W_ w.heap.size 3 1 (.slice A2_ (acc ++ [x.val]).length c2_) (acc ++ [x.val]).length (Rg.ints (acc ++ [x.val])) ∧ Blk W_ gv 3 #[.int .i64 (E[x.val].t : Int)] ∧ Below (w.heap.size) w W_)) (pre ++ [x]) w16) := fun _ _ h => h
    have HRS := Below.refl (w.heap.size) w16
    have HKO := KeepsFrom.refl 0 w16
    have hBr : w.heap.size ≤ w16.heap.size := HB.size
    have hxm := Rg.mem_adj.1 x.2
    obtain ⟨hxi, hxk⟩ := hxm
    have hxw : x.val < ((Rg.tts E.length ts).map Sp.st).length := by omega
    have hxE := hEO _ (List.getElem_mem hxi)
    have hvd : v < dl.length := by omega
    have htd : E[x.val].t < dl.length := by omega
    have hdt : dl[E[x.val].t] = D E[x.val].t := by rw [← hdl _ hxE.2, Sp.ix_get htd]
    have hdv : dl[v] = D v := by rw [← hdl _ hvN, Sp.ix_get hvd]
    have hb1 := hD.lo.pos _ hxE.2
    have hst := Rg.st_ix (ts := ts) hxi hxw
    have htb : Rg.tt ts x.val = 4611686018427387904 ∨ (1 ≤ Rg.tt ts x.val ∧ Rg.tt ts x.val ≤ 1048576) := Rg.tt_bd ts x.val
    have hstb : Sp.st (Rg.tt ts x.val) = 4611686018427387904 ∨ (1 ≤ Sp.st (Rg.tt ts x.val) ∧ Sp.st (Rg.tt ts x.val) ≤ 8589934593) := by
      rcases htb with e | e
      exact .inl (Sp.st_inf e)
      rw [Sp.st_in (by omega)]; right; omega
    have hni := Rg.next_iff2 hEO hN hD hvN hvf hxi hxk
    refine Fw.R.block ?_
    refine Fw.R.seq fun _ hK34 => ?_
    refine Fw.R.region ?_ hLO
    refine Fw.ld sc24 rfl (Hn.cell 0) rfl ?_
    refine Fw.s (Fw.val_move rfl) rfl ?_
    refine Fw.call cf54 rfl rfl (edge_any _ g N E (hG.low HB) x.val hxi) ?_
    rintro e_ w17 ⟨rfl, hb⟩
    refine ⟨_, rfl, ?_⟩
    replace Hn := Hn.low hb
    replace HT := own_below HT hb (Nat.le_refl _)
    replace Hx := Hx.low hb
    replace HD := own_below HD hb (Nat.le_refl _)
    replace Hd := Hd.low hb
    replace Hy := Hy.low hb
    replace Hv := Hv.low hb
    replace HO := own_below HO hb (Nat.le_refl _)
    replace HRS := HRS.trans (hb.mono (Nat.le_trans hBr HRS.size))
    replace HKO := HKO.trans (Fw.kf_low hb)
    replace HB := HB.trans (hb.mono HB.size)
    clear hb
    refine Fw.s (Fw.val_move rfl) rfl ?_
    refine Fw.s (Fw.val_extract rfl rfl) rfl ?_
    refine Fw.s (Fw.val_extract rfl rfl) rfl ?_
    refine Fw.alloc ze29 rfl ?_
    intro w18 ge ege He hb
    have n_gD_ge : gD < ge := by have := (HD.lt gD rfl).2; omega
    have n_gT_ge : gT < ge := by have := (HT.lt gT rfl).2; omega
    have n_gn_ge : gn < ge := by have := Hn.lt; omega
    have n_gx_ge : gx < ge := by have := Hx.lt; omega
    have n_gd_ge : gd < ge := by have := Hd.lt; omega
    have n_gy_ge : gy < ge := by have := Hy.lt; omega
    have n_gv_ge : gv < ge := by have := Hv.lt; omega
    have lge : w.heap.size ≤ ge := by have := HB.size; omega
    replace Hn := Hn.low hb
    replace HT := own_below HT hb (Nat.le_refl _)
    replace Hx := Hx.low hb
    replace HD := own_below HD hb (Nat.le_refl _)
    replace Hd := Hd.low hb
    replace Hy := Hy.low hb
    replace Hv := Hv.low hb
    replace HO := own_below HO hb (Nat.le_refl _)
    replace HRS := HRS.trans (hb.mono (Nat.le_trans hBr HRS.size))
    replace HKO := HKO.trans (Fw.kf_low hb)
    replace HB := HB.trans (hb.mono HB.size)
    clear hb
    clear ege
    refine Fw.storeW sz29 rfl rfl He rfl rfl (by exact Fw.oneCells rfl) ?_
    intro w19 N_ hc
    replace Hn := Hn.chg hc (by omega)
    replace HT := own_to HT hc (fun g_ h_ e_ => by injection h_ with h_; have h_ : gT = g_ := h_; have e_ : g_ = ge := e_; omega)
    replace Hx := Hx.chg hc (by omega)
    replace HD := own_to HD hc (fun g_ h_ e_ => by injection h_ with h_; have h_ : gD = g_ := h_; have e_ : g_ = ge := e_; omega)
    replace Hd := Hd.chg hc (by omega)
    replace Hy := Hy.chg hc (by omega)
    replace Hv := Hv.chg hc (by omega)
    replace HO := own_to HO hc (fun g_ h_ e_ => own_ne HO He (by decide) (by rw [h_, e_]))
    replace HRS := HRS.trans (hc.below (fun k e => by omega) (Nat.le_trans hBr HRS.size))
    replace HKO := HKO.trans (Fw.kf_chg hc He)
    replace HB := HB.trans (hc.below (B := w.heap.size) (fun k e => by omega) HB.size)
    clear hc
    clear He
    have He := N_
    clear N_
    replace He : Blk w19 ge 29 #[.int .i64 (E[x.val].f : Int), .int .i64 (E[x.val].t : Int), .int .i64 E[x.val].m] := He
    refine Fw.s (Fw.val_assign rfl) rfl ?_
    refine Fw.nil ?_
    refine hK34 _ _ (Fw.R.RC.sub (f' := [(18, _), (17, _), (16, _), (15, _), (14, _), (11, _)]) (.cons rfl (.cons rfl (.cons rfl (.cons rfl (.cons rfl (.cons rfl .nil)))))) ?_)
    refine Fw.R.seq fun _ hK35 => ?_
    refine Fw.R.regionQ (by kernel_rfl) (by kernel_rfl) ?_ hLO
    refine Fw.ldQ sc123 rfl (Hx.cell 0) rfl ?_
    refine Fw.q (Fw.val_move rfl) rfl ?_
    have HC1 := Rg.own_cell HT _ hxw
    refine Fw.q (Fw.val_indexR Try.underlying123 sz2 rfl rfl rfl rfl hxi (by rw [Fw.add_flat, Nat.zero_add, Nat.mul_one])) rfl ?_
    refine Fw.ldQ sc2 rfl (HC1) rfl ?_
    refine Fw.q2 (Fw.val_bin rfl rfl Fw.b_neq) rfl ?_ ?_
    rintro hq5
    refine Fw.q (Fw.val_move rfl) rfl ?_
    refine Fw.gTQ (d := 78) rfl rfl ?_
    refine Fw.ldQ sc123 rfl (Hx.cell 0) rfl ?_
    refine Fw.gTQ (d := 78) rfl rfl ?_
    refine Fw.q (Fw.val_move rfl) rfl ?_
    refine Fw.gTQ (d := 78) rfl rfl ?_
    have HC1 := Rg.own_cell HT _ hxw
    refine Fw.q (Fw.val_indexR Try.underlying123 sz2 rfl rfl rfl rfl hxi (by rw [Fw.add_flat, Nat.zero_add, Nat.mul_one])) rfl ?_
    refine Fw.gTQ (d := 78) rfl rfl ?_
    refine Fw.ldQ sc2 rfl (HC1) rfl ?_
    refine Fw.gTQ (d := 78) rfl rfl ?_
    refine Fw.ldQ sc123 rfl (Hd.cell 0) rfl ?_
    refine Fw.gTQ (d := 78) rfl rfl ?_
    refine Fw.q (Fw.val_fieldAddr fl29_1 rfl rfl) rfl ?_
    refine Fw.gTQ (d := 78) rfl rfl ?_
    refine Fw.ldQ sc3 rfl (He.cell 1) rfl ?_
    refine Fw.gTQ (d := 78) rfl rfl ?_
    have HC2 := Rg.own_cell HD _ htd
    refine Fw.q (Fw.val_indexR Try.underlying123 sz2 rfl rfl rfl rfl hxE.2 (by rw [Fw.add_flat, Nat.zero_add, Nat.mul_one])) rfl ?_
    refine Fw.gTQ (d := 78) rfl rfl ?_
    refine Fw.ldQ sc2 rfl (HC2) rfl ?_
    refine Fw.gTQ (d := 78) rfl rfl ?_
    refine Fw.q (Fw.val_bin rfl rfl (Fw.b_add (Fw.i64_ok (by omega)))) rfl ?_
    refine Fw.gTQ (d := 78) rfl rfl ?_
    refine Fw.ldQ sc123 rfl (Hd.cell 0) rfl ?_
    refine Fw.gTQ (d := 78) rfl rfl ?_
    refine Fw.ldQ sc3 rfl (Hv.cell 0) rfl ?_
    refine Fw.gTQ (d := 78) rfl rfl ?_
    have HC3 := Rg.own_cell HD _ hvd
    refine Fw.q (Fw.val_indexR Try.underlying123 sz2 rfl rfl rfl rfl hvN (by rw [Fw.add_flat, Nat.zero_add, Nat.mul_one])) rfl ?_
    refine Fw.gTQ (d := 78) rfl rfl ?_
    refine Fw.ldQ sc2 rfl (HC3) rfl ?_
    refine Fw.gTQ (d := 78) rfl rfl ?_
    refine Fw.q2 (Fw.val_bin rfl rfl Fw.b_eql) rfl ?_ ?_
    rintro hq6
    refine Fw.q (Fw.val_pickT rfl rfl) rfl ?_
    refine Fw.nilQ ?_
    intro w20 hb
    clear HC1
    clear HC2
    clear HC3
    replace Hn := Hn.low hb
    replace HT := own_below HT hb (Nat.le_refl _)
    replace Hx := Hx.low hb
    replace HD := own_below HD hb (Nat.le_refl _)
    replace Hd := Hd.low hb
    replace Hy := Hy.low hb
    replace Hv := Hv.low hb
    replace HO := own_below HO hb (Nat.le_refl _)
    replace HRS := HRS.trans (hb.mono (Nat.le_trans hBr HRS.size))
    replace HKO := HKO.trans (Fw.kf_low hb)
    replace He := He.low hb
    replace HB := HB.trans (hb.mono HB.size)
    clear hb
    refine hK35 _ _ (Fw.R.RC.sub (f' := [(94, _), (18, _), (17, _), (16, _), (15, _)]) (.cons rfl (.cons rfl (.cons rfl (.cons rfl (.cons rfl .nil))))) ?_)
    refine Fw.R.condT rfl ?_
    refine Fw.R.seq fun _ hK42 => ?_
    have hfv0 := (Sp.dig hA h8 hN' hb hD hvN hvf).2.2.1
    have hnxt := hni.2 ⟨by rw [← hst]; exact hq5, by rw [hst, hdt, hdv] at hq6; exact hq6⟩
    refine Fw.R.region ?_ hLO
    refine Fw.ld sc47 rfl (Hy.cell 0) rfl ?_
    refine Fw.s (Fw.val_move rfl) rfl ?_
    refine Fw.buildSlice [_] sl47 rfl rfl (by exact Fw.allSz rfl) (by decide) rfl ?_
    intro w21 gS97 egS97 HS97 hb
    have n_gn_gS97 : gn < gS97 := by have := Hn.lt; omega
    have n_gx_gS97 : gx < gS97 := by have := Hx.lt; omega
    have n_gd_gS97 : gd < gS97 := by have := Hd.lt; omega
    have n_gy_gS97 : gy < gS97 := by have := Hy.lt; omega
    have n_gv_gS97 : gv < gS97 := by have := Hv.lt; omega
    have n_ge_gS97 : ge < gS97 := by have := He.lt; omega
    have lgS97 : w.heap.size ≤ gS97 := by have := HB.size; omega
    replace Hn := Hn.low hb
    replace HT := own_below HT hb (Nat.le_refl _)
    replace Hx := Hx.low hb
    replace HD := own_below HD hb (Nat.le_refl _)
    replace Hd := Hd.low hb
    replace Hy := Hy.low hb
    replace Hv := Hv.low hb
    replace HO := own_below HO hb (Nat.le_refl _)
    replace HRS := HRS.trans (hb.mono (Nat.le_trans hBr HRS.size))
    replace HKO := HKO.trans (Fw.kf_low hb)
    replace He := He.low hb
    replace HB := HB.trans (hb.mono HB.size)
    clear hb
    clear egS97
    have hgA1 : ∀ k_, some k_ = (Value.slice A_ acc.length c_).ownBlock → ¬ k_ = gv := fun k_ hk_ => hgA k_ (by rw [← ownBlock_slice A_ acc.length c_]; exact hk_.symm)
    have hvs := Hv.lt
    refine Fw.append (acc ++ [x.val]).length (Rg.ints (acc ++ [x.val])) sl47 rfl rfl HO (Rg.one_nat HS97) rfl (Fw.oneCellsL rfl) (by unfold maxLen; omega) HB.size (by simp) (Rg.ints_app _ _) rfl ?_
    intro A98 c98 w22 N_ hbb hc hrow
    replace hc : Chg (fun g => some g = (Value.slice A_ acc.length c_).ownBlock) _ _ := hc
    replace hrow : A98.map (·.block) = (Value.slice A_ acc.length c_).ownBlock ∨ _ := hrow
    replace HKO := HKO.trans (Fw.kf_own hc HO)
    replace HRS := HRS.trans hbb
    replace HB := HB.trans hbb
    replace Hv := Hv.chg hc (fun e => hgA1 gv e rfl)
    have hgA3 : ∀ k_, A98.map (·.block) = some k_ → ¬ k_ = gv := fun k_ hk_ => by
      rcases hrow with e | e
      exact hgA1 k_ (by rw [← e]; exact hk_.symm)
      rw [e] at hk_; injection hk_ with hk_; omega
    replace Hn := Hn.chg hc (fun e => own_ne_blk HO Hn (by decide) e.symm)
    replace Hx := Hx.chg hc (fun e => own_ne_blk HO Hx (by decide) e.symm)
    replace Hd := Hd.chg hc (fun e => own_ne_blk HO Hd (by decide) e.symm)
    replace Hy := Hy.chg hc (fun e => own_ne_blk HO Hy (by decide) e.symm)
    replace He := He.chg hc (fun e => own_ne_blk HO He (by decide) e.symm)
    obtain ⟨_, HDbk, _⟩ := Fw.own_at HD
    obtain ⟨_, HTbk, _⟩ := Fw.own_at HT
    replace HD := own_to HD hc (fun g_ h_ e_ => own_ne_blk HO HDbk (by decide) (by rw [← e_]; injection h_ with h_; exact congrArg some h_.symm))
    replace HT := own_to HT hc (fun g_ h_ e_ => own_ne_blk HO HTbk (by decide) (by rw [← e_]; injection h_ with h_; exact congrArg some h_.symm))
    clear hbb hc hrow HO HS97 HDbk HTbk hgA
    have HO := N_
    have hgA := hgA3
    clear N_
    refine Fw.store sz47 rfl rfl Hy rfl rfl rfl ?_
    intro w23 N_ hc
    replace Hn := Hn.chg hc (by omega)
    replace HT := own_to HT hc (fun g_ h_ e_ => by injection h_ with h_; have h_ : gT = g_ := h_; have e_ : g_ = gy := e_; omega)
    replace Hx := Hx.chg hc (by omega)
    replace HD := own_to HD hc (fun g_ h_ e_ => by injection h_ with h_; have h_ : gD = g_ := h_; have e_ : g_ = gy := e_; omega)
    replace Hd := Hd.chg hc (by omega)
    replace Hv := Hv.chg hc (by omega)
    replace HO := own_to HO hc (fun g_ h_ e_ => own_ne HO Hy (by decide) (by rw [h_, e_]))
    replace HRS := HRS.trans (hc.below (fun k e => by omega) (Nat.le_trans hBr HRS.size))
    replace HKO := HKO.trans (Fw.kf_chg hc Hy)
    replace He := He.chg hc (by omega)
    replace HB := HB.trans (hc.below (B := w.heap.size) (fun k e => by omega) HB.size)
    clear hc
    clear Hy
    have Hy := N_
    clear N_
    replace Hy : Blk w23 gy 47 #[.slice A98 (acc ++ [x.val]).length c98] := Hy
    refine Fw.nil ?_
    refine hK42 _ _ (Fw.R.RC.sub (f' := [(18, _), (16, _)]) (.cons rfl (.cons rfl .nil)) ?_)
    refine Fw.R.seq fun _ hK43 => ?_
    refine Fw.R.region ?_ hLO
    refine Fw.s (Fw.val_fieldAddr fl29_1 rfl rfl) rfl ?_
    refine Fw.ld sc3 rfl (He.cell 1) rfl ?_
    refine Fw.store sz3 rfl rfl Hv rfl rfl rfl ?_
    intro w24 N_ hc
    replace Hn := Hn.chg hc (by omega)
    replace HT := own_to HT hc (fun g_ h_ e_ => by injection h_ with h_; have h_ : gT = g_ := h_; have e_ : g_ = gv := e_; omega)
    replace Hx := Hx.chg hc (by omega)
    replace HD := own_to HD hc (fun g_ h_ e_ => by injection h_ with h_; have h_ : gD = g_ := h_; have e_ : g_ = gv := e_; omega)
    replace Hd := Hd.chg hc (by omega)
    replace Hy := Hy.chg hc (by omega)
    replace HO := own_to HO hc (fun g_ h_ e_ => hgA g_ h_ e_)
    replace HRS := HRS.trans (hc.below (fun k e => by omega) (Nat.le_trans hBr HRS.size))
    replace HKO := HKO.trans (Fw.kf_chg hc Hv)
    replace He := He.chg hc (by omega)
    replace HB := HB.trans (hc.below (B := w.heap.size) (fun k e => by omega) HB.size)
    clear hc
    clear Hv
    have Hv := N_
    clear N_
    replace Hv : Blk w24 gv 3 #[.int .i64 (E[x.val].t : Int)] := Hv
    refine Fw.nil ?_
    refine hK43 _ _ ?_
    refine Fw.R.exit ?_
    refine Fw.X_blockO rfl ?_
    exact fun _ _ => ⟨HKO, ⟨rfl, pre, x, hxi, A98, c98, rfl, hnxt, hno, hgA3, Hn, Hx, Hd, HT, HD, Hy, HO, Hv, HB⟩⟩
    rintro hq6
    refine Fw.q (Fw.val_pickT rfl rfl) rfl ?_
    refine Fw.nilQ ?_
    intro w25 hb
    clear HC1
    clear HC2
    clear HC3
    replace Hn := Hn.low hb
    replace HT := own_below HT hb (Nat.le_refl _)
    replace Hx := Hx.low hb
    replace HD := own_below HD hb (Nat.le_refl _)
    replace Hd := Hd.low hb
    replace Hy := Hy.low hb
    replace Hv := Hv.low hb
    replace HO := own_below HO hb (Nat.le_refl _)
    replace HRS := HRS.trans (hb.mono (Nat.le_trans hBr HRS.size))
    replace HKO := HKO.trans (Fw.kf_low hb)
    replace He := He.low hb
    replace HB := HB.trans (hb.mono HB.size)
    clear hb
    refine hK35 _ _ (Fw.R.RC.sub (f' := [(94, _), (18, _), (17, _), (16, _), (15, _)]) (.cons rfl (.cons rfl (.cons rfl (.cons rfl (.cons rfl .nil))))) ?_)
    refine Fw.R.condF rfl ?_
    refine Fw.R.skip ?_
    refine Fw.X_blockN ?_
    exact fun _ _ => ⟨HKO, HRS, ⟨(fun y hy => (List.mem_append.1 hy).elim (hno y) (fun hy => by rw [List.mem_singleton.1 hy]; exact fun hc => by have := hni.1 hc; omega)), Hn, HT, Hx, HD, Hd, Hy, Hv, HO, HB⟩⟩
    rintro hq5
    refine Fw.q (Fw.val_move rfl) rfl ?_
    refine Fw.gFQ (d := 78) rfl rfl rfl rfl ?_
    refine Fw.gFQ (d := 78) rfl rfl rfl rfl ?_
    refine Fw.gFQ (d := 78) rfl rfl rfl rfl ?_
    refine Fw.gFQ (d := 78) rfl rfl rfl rfl ?_
    refine Fw.gFQ (d := 78) rfl rfl rfl rfl ?_
    refine Fw.gFQ (d := 78) rfl rfl rfl rfl ?_
    refine Fw.gFQ (d := 78) rfl rfl rfl rfl ?_
    refine Fw.gFQ (d := 78) rfl rfl rfl rfl ?_
    refine Fw.gFQ (d := 78) rfl rfl rfl rfl ?_
    refine Fw.gFQ (d := 78) rfl rfl rfl rfl ?_
    refine Fw.gFQ (d := 78) rfl rfl rfl rfl ?_
    refine Fw.gFQ (d := 78) rfl rfl rfl rfl ?_
    refine Fw.gFQ (d := 78) rfl rfl rfl rfl ?_
    refine Fw.gFQ (d := 78) rfl rfl rfl rfl ?_
    refine Fw.gFQ (d := 78) rfl rfl rfl rfl ?_
    refine Fw.q (Fw.val_pickF rfl rfl) rfl ?_
    refine Fw.nilQ ?_
    intro w26 hb
    clear HC1
    replace Hn := Hn.low hb
    replace HT := own_below HT hb (Nat.le_refl _)
    replace Hx := Hx.low hb
    replace HD := own_below HD hb (Nat.le_refl _)
    replace Hd := Hd.low hb
    replace Hy := Hy.low hb
    replace Hv := Hv.low hb
    replace HO := own_below HO hb (Nat.le_refl _)
    replace HRS := HRS.trans (hb.mono (Nat.le_trans hBr HRS.size))
    replace HKO := HKO.trans (Fw.kf_low hb)
    replace He := He.low hb
    replace HB := HB.trans (hb.mono HB.size)
    clear hb
    refine hK35 _ _ (Fw.R.RC.sub (f' := [(94, _), (18, _), (17, _), (16, _), (15, _)]) (.cons rfl (.cons rfl (.cons rfl (.cons rfl (.cons rfl .nil))))) ?_)
    refine Fw.R.condF rfl ?_
    refine Fw.R.skip ?_
    refine Fw.X_blockN ?_
    exact fun _ _ => ⟨HKO, HRS, ⟨(fun y hy => (List.mem_append.1 hy).elim (hno y) (fun hy => by rw [List.mem_singleton.1 hy]; exact fun hc => hq5 (by rw [hst]; exact (hni.1 hc).1))), Hn, HT, Hx, HD, Hd, Hy, Hv, HO, HB⟩⟩
  case done =>
    clear Hn HT Hx HD Hd Hy Hv HO HB
    rintro D_ ys_ w27 hD_ hS_ ⟨hno, Hn, HT, Hx, HD, Hd, Hy, Hv, HO, HB⟩ hkf_ hK_
    have hsz_ := Fw.kf_size hkf_
    obtain rfl : ys_ = (Rg.adj Rg.Ed.f E v).attach := hS_
    obtain ⟨i, hi⟩ := Sp.next_ex hA hD hvN hvf (by omega)
    exact absurd hi (hno ⟨i, Rg.next_adj hi⟩ (List.mem_attach _ _))
  case stop =>
    clear Hn HT Hx HD Hd Hy Hv HO HB
    rintro D_ c_ ys_ w28 hD_ hS_ ⟨rfl, p0, x, hxi, A2_, c2_, hys, hnx, hno, hgA2_, Hn, Hx, Hd, HT, HD, Hy, HO, Hv, HB⟩ hkf_ hK_
    have hsz_ := Fw.kf_size hkf_
    obtain ⟨s_, hs_⟩ := hS_
    have hL : Sp.Least (Rg.arcT N E ts false) D v x.val := ⟨hnx, Rg.least_of (by rw [← hys]; exact hs_) hno (fun j hj => Rg.next_adj hj)⟩
    have hus : (Rg.arcT N E ts false).s x.val = E[x.val].t := Rg.arc_s hxi
    have hut : E[x.val].t < N := (hEO _ (List.getElem_mem hxi)).2
    have hnf : D E[x.val].t ≠ Sp.INF := by rw [← hus]; exact hL.1.2.2.1
    have hDv : D v = D E[x.val].t + (Rg.tt ts x.val * 8192 + 1) := by rw [← hus, ← Rg.wt_ltF hxi]; exact hL.1.2.2.2
    have htu : 1 ≤ Rg.tt ts x.val := by
      have h1 := Rg.tt_bd ts x.val
      have h2 : Rg.tt ts x.val ≠ Sp.INF := by rw [← Rg.wt_ltF hxi]; exact hL.1.1.2
      exact (h1.resolve_left h2).1
    have hp0 := (hD.lo.pos E[x.val].t hut).1
    have hfu : Sp.fOf D v = Sp.fOf D E[x.val].t + 1 := by
      have h1 := (Sp.tight_iff hA h8 hN' hb hD (i := x.val) hL.1.1 hL.1.2.2.1 (by rw [hL.1.2.1]; exact hvf)).1 (by rw [hL.1.2.1]; exact hL.1.2.2.2)
      have h2 := h1.2
      rw [hL.1.2.1, hus] at h2; exact h2
    have hf0 : 0 ≤ Sp.fOf D E[x.val].t := (Sp.dig hA h8 hN' hb hD hut hnf).2.2.1
    replace HM := Fw.Marks.push HM hBr_ hkf_ hD_ hK_
    refine Fw.exit ?_
    refine Fw.X_block ?_
    refine Fw.X_blockN ?_
    refine hK32 _ _ ?_
    refine Fw.seq fun _ hK44 => ?_
    refine Fw.region ?_
    refine Fw.ld sc3 rfl (Hv.cell 0) rfl ?_
    refine Fw.nil ?_
    refine hK44 _ _ (Fw.FC.sub (f' := [(101, _), (15, _), (14, _), (11, _), (4, _), (2, _), (3, _)]) (.cons rfl (.cons rfl (.cons rfl (.cons rfl (.cons rfl (.cons rfl (.cons rfl .nil))))))) ?_)
    refine Fw.region ?_
    refine Fw.alloc ze3 rfl ?_
    intro w29 gv2 egv2 Hv2 hb
    have n_gD_gv2 : gD < gv2 := by have := (HD.lt gD rfl).2; omega
    have n_gT_gv2 : gT < gv2 := by have := (HT.lt gT rfl).2; omega
    have hgA2 : ∀ k_, A2_.map (·.block) = some k_ → ¬ k_ = gv2 := fun k_ hk_ e => by have := (HO.lt k_ (by rw [ownBlock_slice]; exact hk_)).2; omega
    have n_gn_gv2 : gn < gv2 := by have := Hn.lt; omega
    have n_gx_gv2 : gx < gv2 := by have := Hx.lt; omega
    have n_gd_gv2 : gd < gv2 := by have := Hd.lt; omega
    have n_gy_gv2 : gy < gv2 := by have := Hy.lt; omega
    have n_gv_gv2 : gv < gv2 := by have := Hv.lt; omega
    have lgv2 : w.heap.size ≤ gv2 := by have := HB.size; omega
    replace HM := HM.low hb
    replace Hn := Hn.low hb
    replace HT := own_below HT hb (Nat.le_refl _)
    replace Hx := Hx.low hb
    replace HD := own_below HD hb (Nat.le_refl _)
    replace Hd := Hd.low hb
    replace Hy := Hy.low hb
    replace Hv := Hv.low hb
    replace HO := own_below HO hb (Nat.le_refl _)
    replace HB := HB.trans (hb.mono HB.size)
    clear hb
    clear egv2
    refine Fw.store sz3 rfl rfl Hv2 rfl rfl rfl ?_
    intro w30 N_ hc
    replace HM := HM.keep (Fw.kf_chg hc Hv2).mono_
    replace Hn := Hn.chg hc (by omega)
    replace HT := own_to HT hc (fun g_ h_ e_ => by injection h_ with h_; have h_ : gT = g_ := h_; have e_ : g_ = gv2 := e_; omega)
    replace Hx := Hx.chg hc (by omega)
    replace HD := own_to HD hc (fun g_ h_ e_ => by injection h_ with h_; have h_ : gD = g_ := h_; have e_ : g_ = gv2 := e_; omega)
    replace Hd := Hd.chg hc (by omega)
    replace Hy := Hy.chg hc (by omega)
    replace Hv := Hv.chg hc (by omega)
    replace HO := own_to HO hc (fun g_ h_ e_ => hgA2 g_ h_ e_)
    replace HB := HB.trans (hc.below (B := w.heap.size) (fun k e => by omega) HB.size)
    clear hc
    clear Hv2
    have Hv2 := N_
    clear N_
    replace Hv2 : Blk w30 gv2 3 #[.int .i64 (E[x.val].t : Int)] := Hv2
    refine Fw.nil ?_
    clear Hv
    have Hv := Hv2
    refine Fw.roundEndM _ _ (by omega) ⟨E[x.val].t, acc ++ [x.val], A2_, c2_, gv2, rfl, hut, hnf, fun l hl => by rw [List.append_assoc]; exact htr _ (.cons (by omega) hL (by rw [hus]; exact hl)), by rw [List.length_append]; show ((acc.length + 1 : Nat) : Int) + _ ≤ 12; omega, hgA2, ⟨by omega, by omega, by omega, by omega, by omega, by omega, by omega⟩, Hn, HT, Hx, HD, Hd, Hy, Hv, HO, HB, rfl, HM⟩ (.cons rfl (.cons rfl (.cons rfl (.cons rfl (.cons rfl (.cons rfl (.cons rfl .nil)))))))
  rintro hv1
  refine Fw.nil ?_
  refine hK30 _ _ ?_
  refine Fw.condF rfl ?_
  refine Fw.exit ?_
  refine Fw.X_exit ?_
  refine Fw.X_exit ?_
  refine Fw.X_block ?_
  refine hK26 _ _ (Fw.FC.sub (f' := [(15, _), (14, _), (2, _)]) (.cons rfl (.cons rfl (.cons rfl .nil))) ?_)
  refine Fw.seq fun _ hK45 => ?_
  refine Fw.regionQ (by kernel_rfl) (by kernel_rfl) ?_
  refine Fw.ldQ sc47 rfl (Hy.cell 0) rfl ?_
  refine Fw.ldQ sc123 rfl (Hd.cell 0) rfl ?_
  refine Fw.q (Fw.val_move rfl) rfl ?_
  have HC0 := Rg.own_cell HD _ had
  refine Fw.q (Fw.val_indexR Try.underlying123 sz2 rfl rfl rfl rfl ha (by rw [Fw.add_flat, Nat.zero_add, Nat.mul_one])) rfl ?_
  refine Fw.ldQ sc2 rfl (HC0) rfl ?_
  refine Fw.q (Fw.val_bin rfl rfl (Rg.quo8 (x := dl[a]) (by rw [haD]; exact hDa0))) rfl ?_
  refine Fw.q (Fw.val_assign rfl) rfl ?_
  refine Fw.q (Fw.val_assign rfl) rfl ?_
  refine Fw.q (Fw.val_assign rfl) rfl ?_
  refine Fw.nilQ ?_
  intro w31 hb
  clear HC0
  replace HM := HM.low hb
  replace Hn := Hn.low hb
  replace HT := own_below HT hb (Nat.le_refl _)
  replace Hx := Hx.low hb
  replace HD := own_below HD hb (Nat.le_refl _)
  replace Hd := Hd.low hb
  replace Hy := Hy.low hb
  replace Hv := Hv.low hb
  replace HO := own_below HO hb (Nat.le_refl _)
  replace HB := HB.trans (hb.mono HB.size)
  clear hb
  refine hK45 _ _ (Fw.FC.sub (f' := [(10, _), (9, _), (8, _)]) (.cons rfl (.cons rfl (.cons rfl .nil))) ?_)
  refine Fw.ret ?_
  refine Fw.retM [.tmp 8, .tmp 9, .tmp 10] [_, _, _] Try.results59 HM HB.size (fun wE hk_ hb_ => ⟨(.tmp rfl (.tmp rfl (.tmp rfl .nil))), ?_⟩)
  have hDa : D a ≠ Sp.INF := fun e => hq0 (by rw [haD]; exact e)
  have hvb : v = b := by omega
  exact ⟨A_, c_, acc, by rw [if_neg hDa, decide_eq_true hDa, show Sp.dOf D a = dl[a] / 8192 by unfold Sp.dOf; rw [if_neg hDa, haD]]; rfl, Fw.own_kp HO hk_ rfl, fun hh => absurd hh hDa, fun _ => by have := htr [] (by rw [hvb]; exact .nil); rwa [List.append_nil] at this, HB.trans hb_⟩

end Go.Proofs.Ytodhpooddmeghaa
namespace Go.Proofs.Ytodhpooddmeghaa
set_option linter.unusedSimpArgs false
set_option linter.unusedVariables false
open Go.RowKit

namespace Rg
def Ed.re (e : Ed) : Re := ⟨e.f, e.t, e.m⟩
theorem re_cells (E : List Ed) : (E.map Ed.re).flatMap Re.cells = E.flatMap Ed.cells := by rw [List.flatMap_map]; rfl
/-- what a small valid graph is -/
structure Net (N : Nat) (E : List Ed) : Prop where
  ok : EOk N E
  n : 1 ≤ N ∧ N ≤ 12
  e : E.length ≤ 40
  m : ∀ e ∈ E, 1 ≤ e.m ∧ (e.m ≤ 1048576 ∨ e.m = 4611686018427387904)
theorem Net.right {N : Nat} {E : List Ed} (h : Net N E) : Right N (E.map Ed.re) :=
  ⟨by have := h.n; omega, by rw [List.length_map]; exact h.e, fun e he => by
    obtain ⟨x, hx, rfl⟩ := List.mem_map.1 he
    have h1 := h.ok x hx; have h2 := h.m x hx
    show (0 ≤ (x.f : Int) ∧ (x.f : Int) < N) ∧ (0 ≤ (x.t : Int) ∧ (x.t : Int) < N) ∧ 1 ≤ x.m ∧ _
    exact ⟨by omega, by omega, h2⟩⟩
theorem right_net {N : Int} {R : List Re} (h : Right N R) : ∃ (M : Nat) (E : List Ed), N = M ∧ R = E.map Ed.re ∧ Net M E := by
  refine ⟨N.toNat, R.map fun e => ⟨e.f.toNat, e.t.toNat, e.m⟩, by have := h.1; omega, ?_, ?_⟩
  · rw [List.map_map]
    refine (List.map_id R).symm.trans (List.map_congr_left fun e he => ?_)
    have := h.2.2 e he
    obtain ⟨h1, h2, _⟩ := this
    show e = ⟨((e.f.toNat : Nat) : Int), ((e.t.toNat : Nat) : Int), e.m⟩
    rw [Int.toNat_of_nonneg h1.1, Int.toNat_of_nonneg h2.1]
  · refine ⟨fun e he => ?_, by have := h.1; omega, by rw [List.length_map]; exact h.2.1, fun e he => ?_⟩
    · obtain ⟨x, hx, rfl⟩ := List.mem_map.1 he
      have := h.2.2 x hx
      obtain ⟨h1, h2, _⟩ := this
      show x.f.toNat < N.toNat ∧ x.t.toNat < N.toNat
      omega
    · obtain ⟨x, hx, rfl⟩ := List.mem_map.1 he
      exact (h.2.2 x hx).2.2
theorem some_of {A : Option Addr} {a b : Nat} (h : A.map (·.block) = some a ∨ A.map (·.block) = some b) : ∃ ad, A = some ad := by
  cases A with
  | none => rcases h with h | h <;> cases h
  | some ad => exact ⟨ad, rfl⟩
theorem Net.swap {N : Nat} {E : List Ed} (h : Net N E) : Net N (E.map Ed.swap) := ⟨swap_ok h.ok, h.n, by rw [List.length_map]; exact h.e, fun e he => by
  obtain ⟨x, hx, rfl⟩ := List.mem_map.1 he; exact h.m x hx⟩
end Rg
namespace Rg
abbrev g3 : List Ed := [⟨0, 1, 5⟩, ⟨1, 2, 5⟩, ⟨0, 2, 10⟩]
theorem g3_net : Net 3 g3 := ⟨by unfold EOk; decide, by decide, by decide, by decide⟩
theorem own_cellN {w : World} {base e n c g : Nat} {l : List Nat} (h : w.ownsRow base e 1 (.slice (some ⟨g, 0, none⟩) n c) n (ints l)) (i : Nat) (hi : i < l.length) : w.cell? ⟨g, i, none⟩ = some (.int .i64 (l[i] : Int)) := by
  have h' : w.ownsRow base e 1 (.slice (some ⟨g, 0, none⟩) n c) n ((l.map fun (j : Nat) => (j : Int)).map (.int .i64)) := by rw [List.map_map]; exact h
  have := own_cell h' i (by rw [List.length_map]; exact hi)
  rw [this, List.getElem_map]
theorem g3_from {dl : List Int} (hl : dl.length = 3) (h : Sp.IsDist (arcT 3 g3 [5, 5, 10] true) 1048576 (fun v => (v : Int) ∈ [(0 : Int)]) (Sp.ix dl)) : dl = [0, 5, 10] := by
  rw [← Sp.rounds_list (arcT_ok _ _ g3_net.ok) hl h]; decide
theorem dist_at {E : List Ed} {ts : List Int} {D : Nat → Int} {b N : Nat} (hE : EOk N E) (hD : Sp.IsDist (Sp.star (arcT N E ts false)) 8589934593 (· = b) D) {v : Nat} (hv : v < N) : D v = Sp.ix (Sp.rounds (Sp.star (arcT N E ts false)) (Sp.init N [(b : Int)]) N) v :=
  (Sp.rounds_eq (A := Sp.star (arcT N E ts false)) (Sp.star_ok (arcT_ok ts false hE)) hD [(b : Int)] (fun v _ => by rw [List.mem_singleton]; omega) v hv).symm
theorem dist_ex {N : Nat} {E : List Ed} (ts : List Int) {b : Nat} (hE : EOk N E) (hN : N ≤ 12) (hb : b < N) : ∃ D, Sp.IsDist (Sp.star (arcT N E ts false)) 8589934593 (· = b) D :=
  Sp.exists_dist (A := Sp.star (arcT N E ts false)) (Sp.star_ok (arcT_ok ts false hE)) (by show (N : Int) * 8589934593 + 1 < 4611686018427387904; omega) (by decide) (by show N ≤ 4096; omega) hb
theorem g3_way1 {D : Nat → Int} (hD : Sp.IsDist (Sp.star (arcT 3 g3 [5, 5, 10] false)) 8589934593 (· = 2) D) : D 0 = 81921 ∧ ∀ l, Sp.Trail (arcT 3 g3 [5, 5, 10] false) D 2 0 l → l = [2] := by
  have h0 : D 0 = 81921 := (dist_at g3_net.ok hD (by decide)).trans (by decide)
  have h1 : D 1 = 40961 := (dist_at g3_net.ok hD (by decide)).trans (by decide)
  have h2 : D 2 = 0 := (dist_at g3_net.ok hD (by decide)).trans (by decide)
  refine ⟨h0, fun l hl => hl.unique (.cons (by decide) ⟨⟨⟨by decide, by decide⟩, by decide, ?_, ?_⟩, fun j hj hn => ?_⟩ .nil)⟩
  · show D 2 ≠ _; rw [h2]; decide
  · show D 0 = D 2 + _; rw [h0, h2]; decide
  · obtain rfl | rfl : j = 0 ∨ j = 1 := by omega
    · have e : D 0 = D 1 + (5 * 8192 + 1) := hn.2.2.2
      omega
    · exact absurd hn.2.1 (by decide)
theorem g3_way2 {D : Nat → Int} (hD : Sp.IsDist (Sp.star (arcT 3 g3 [5, 5, 4611686018427387904] false)) 8589934593 (· = 2) D) : D 0 = 81922 ∧ ∀ l, Sp.Trail (arcT 3 g3 [5, 5, 4611686018427387904] false) D 2 0 l → l = [0, 1] := by
  have h0 : D 0 = 81922 := (dist_at g3_net.ok hD (by decide)).trans (by decide)
  have h1 : D 1 = 40961 := (dist_at g3_net.ok hD (by decide)).trans (by decide)
  have h2 : D 2 = 0 := (dist_at g3_net.ok hD (by decide)).trans (by decide)
  refine ⟨h0, fun l hl => hl.unique (.cons (by decide) ⟨⟨⟨by decide, by decide⟩, by decide, ?_, ?_⟩, fun j hj hn => ?_⟩ (.cons (by decide) ⟨⟨⟨by decide, by decide⟩, by decide, ?_, ?_⟩, fun j hj hn => ?_⟩ .nil))⟩
  · show D 1 ≠ _; rw [h1]; decide
  · show D 0 = D 1 + _; rw [h0, h1]; decide
  · omega
  · show D 2 ≠ _; rw [h2]; decide
  · show D 1 = D 2 + _; rw [h1, h2]; decide
  · obtain rfl : j = 0 := by omega
    exact absurd hn.2.1 (by decide)
theorem g3_way3 {D : Nat → Int} (hD : Sp.IsDist (Sp.star (arcT 3 g3 [] false)) 8589934593 (· = 2) D) : D 0 = Sp.INF := (dist_at g3_net.ok hD (by decide)).trans (by decide)
end Rg
end Go.Proofs.Ytodhpooddmeghaa
