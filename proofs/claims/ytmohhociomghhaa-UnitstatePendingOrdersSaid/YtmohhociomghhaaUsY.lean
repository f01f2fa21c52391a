/- Layer 27: the law's own functions: play, wakes. -/
import Derived.Test.YtmohhociomghhaaUsX
namespace Go.Proofs.Ytmohhociomghhaa
set_option linter.unusedSimpArgs false
set_option linter.unusedVariables false
open Go.RowKit

theorem RegAt.fresh {w : World} {B p g c k : Nat} {l : List Us.U} (h : RegAt w B p g c l) (hk : k = w.heap.size) : p ≠ k ∧ g ≠ k := by have := h.lt; omega
theorem RegAt.mono {w : World} {B B' p g c : Nat} {l : List Us.U} (h : RegAt w B' p g c l) (hb : B ≤ B') : RegAt w B p g c l := ⟨Nat.le_trans hb h.1, Nat.le_trans hb h.2.1, h.2.2.1, own_base h.2.2.2 hb⟩

set_option maxRecDepth 100000 in
set_option maxHeartbeats 1000000 in
theorem play_any (w : World) (A : Option Addr) (cf : List Us.Cfg) (c0 : Nat) (A2 : Option Addr) (acts : List Us.Act) (c2 : Nat) (h : Rd w A (cf.flatMap Us.Cfg.cells)) (h2 : Rd w A2 (acts.flatMap Us.Act.cells)) (hal : acts.length ≤ 60) : Calls Try.prog 17 #[.slice A cf.length c0, .slice A2 acts.length c2] w fun e_ w' => ∃ x, e_ = .returned (.tuple #[.pointer x, .bool (decide (Us.newE cf = 0))]) ∧ (Us.newE cf = 0 → cf.length ≤ 256 ∧ ∃ p g, x = some ⟨p, 0, none⟩ ∧ RegAt w' w.heap.size p g cf.length (Us.playL (Us.newL cf) acts)) ∧ Below w.heap.size w w' := by
  have hle : Us.newE cf = 0 → cf.length ≤ 256 := fun e => by
    unfold Us.newE at e; split at e
    · cases e
    · omega
  by_cases hE : Us.newE cf = 0
  · rw [decide_eq_true hE]
    refine Fw.calls Try.func17 rfl Try.ntmps17 rfl ?_
    have HB := Below.refl (w.heap.size) w
    refine Fw.seq fun _ hK1 => ?_
    refine Fw.region ?_
    refine Fw.s (Fw.val_assign rfl) rfl ?_
    refine Fw.s (Fw.val_assign rfl) rfl ?_
    refine Fw.nil ?_
    refine hK1 _ _ ?_
    refine Fw.seq fun _ hK2 => ?_
    refine Fw.region ?_
    refine Fw.s (Fw.val_move rfl) rfl ?_
    refine Fw.call cf10 rfl rfl (new_any _ A cf c0 (h.low HB)) ?_
    rintro e_ w1 ⟨x, rfl, -, hx2, hb⟩
    refine ⟨_, rfl, ?_⟩
    replace HB := HB.trans (hb.mono HB.size)
    clear hb
    obtain ⟨p, g, rfl, HR⟩ := hx2 hE
    rw [hE]
    refine Fw.s (Fw.val_move rfl) rfl ?_
    refine Fw.s (Fw.val_extract rfl rfl) rfl ?_
    refine Fw.s (Fw.val_extract rfl rfl) rfl ?_
    refine Fw.s (Fw.val_assign rfl) rfl ?_
    refine Fw.s (Fw.val_assign rfl) rfl ?_
    refine Fw.nil ?_
    refine hK2 _ _ (Fw.FC.sub (f' := [(7, _), (6, _), (1, _)]) (.cons rfl (.cons rfl (.cons rfl .nil))) ?_)
    refine Fw.seq fun _ hK3 => ?_
    refine Fw.seq fun _ hK4 => ?_
    refine Fw.region ?_
    refine Fw.s (Fw.val_move rfl) rfl ?_
    refine Fw.s (Fw.Val.F (Fw.val_bin rfl rfl Fw.b_neq) (by decide)) rfl ?_
    refine Fw.s (Fw.val_move rfl) rfl ?_
    refine Fw.gT (d := 17) rfl rfl ?_
    refine Fw.s (Fw.val_move rfl) rfl ?_
    refine Fw.gT (d := 17) rfl rfl ?_
    refine Fw.s (Fw.val_bin rfl rfl (Fw.b_nilP Try.underlying24)) rfl ?_
    refine Fw.s (Fw.val_pickF rfl rfl) rfl ?_
    refine Fw.nil ?_
    refine hK4 _ _ ?_
    refine Fw.condF rfl ?_
    refine Fw.skip ?_
    refine hK3 _ _ (Fw.FC.sub (f' := [(6, _), (1, _)]) (.cons rfl (.cons rfl .nil)) ?_)
    refine Fw.seq fun _ hK5 => ?_
    refine Fw.seq fun _ hK6 => ?_
    refine Fw.region ?_
    refine Fw.s (Fw.val_move rfl) rfl ?_
    refine Fw.s (Fw.val_len Try.underlying43 rfl) rfl ?_
    refine Fw.s (Fw.val_move rfl) rfl ?_
    refine Fw.nil ?_
    refine hK6 _ _ ?_
    refine Fw.block ?_
    replace HR : RegAt w1 w.heap.size p g cf.length (Us.playL (Us.newL cf) (acts.take 0)) := HR
    refine Fw.loop (fun m_ f_ W_ => ∃ (k : Nat), m_ = acts.length - k ∧ k ≤ acts.length ∧ RegAt W_ w.heap.size p g cf.length (Us.playL (Us.newL cf) (acts.take k)) ∧ Below (w.heap.size) w W_ ∧ f_ = [(23, .int .i64 k), (22, .int .i64 acts.length), (21, .slice A2 acts.length c2), (6, .pointer (some ⟨p, 0, none⟩))]) ⟨_, _, ⟨0, rfl, Nat.zero_le _, HR, HB, rfl⟩, (.cons rfl (.cons rfl (.cons rfl (.cons rfl .nil))))⟩ ?_
    clear HR HB
    rintro m7_ _ w2 ⟨k, hm7_, hkl, HR, HB, rfl⟩
    refine Fw.seq fun _ hK8 => ?_
    refine Fw.region ?_
    refine Fw.s2 (Fw.val_bin rfl rfl Fw.b_lss) rfl ?_ ?_
    · rintro hk
      refine Fw.nil ?_
      refine hK8 _ _ ?_
      refine Fw.seq fun _ hK10 => ?_
      refine Fw.condT rfl ?_
      refine Fw.skip ?_
      refine hK10 _ _ ?_
      refine Fw.seq fun _ hK11 => ?_
      refine Fw.block ?_
      refine Fw.seq fun _ hK12 => ?_
      have hkn : k < acts.length := by omega
      obtain ⟨ad, b_, o, hA, hadd, HE⟩ := Fw.rdAt Us.Act.len (by decide) (h2.low HB) k hkn
      refine Fw.region ?_
      refine Fw.s (Fw.val_indexR Try.underlying43 sz47 rfl hA rfl rfl hkn hadd) rfl ?_
      refine Fw.ldA ag47 rfl (HE) rfl rfl ?_
      refine Fw.alloc ze47 rfl ?_
      intro w3 gX9 egX9 HX9 hb
      have fr_HR_gX9 := HR.fresh egX9
      have lgX9 : w.heap.size ≤ gX9 := by have := HB.size; omega
      clear HE
      replace HR := HR.low hb
      replace HB := HB.trans (hb.mono HB.size)
      clear hb
      clear egX9
      refine Fw.storeW sz47 rfl rfl HX9 rfl rfl (by exact Fw.oneCells rfl) ?_
      intro w4 N_ hc
      replace HR := HR.chg hc fr_HR_gX9.1 fr_HR_gX9.2
      replace HB := HB.trans (hc.below (B := w.heap.size) (fun k e => by omega) HB.size)
      clear hc
      clear HX9
      have HX9 := N_
      clear N_
      refine Fw.nil ?_
      refine hK12 _ _ ?_
      refine Fw.region ?_
      refine Fw.s (Fw.val_move rfl) rfl ?_
      refine Fw.ldA ag47 rfl (Fw.rdBlk HX9) rfl rfl ?_
      refine Fw.call cf16 rfl rfl (do_any _ w.heap.size p g cf.length (Us.playL (Us.newL cf) (acts.take k)) none 0 [] acts[k] HR (Fw.RdT.nil _ _) (fun i hi => by cases hi) (by rw [Us.playL_len, Us.newL_len]; exact hle hE) (Nat.zero_le _)) ?_
      rintro e_ w5 ⟨A', c', b, rfl, -, -, HR2, hc⟩
      refine ⟨_, rfl, ?_⟩
      have lg := HR.2.1
      replace HB := HB.trans (hc.below (B := w.heap.size) (fun k e => by omega) HB.size)
      clear hc
      clear HR
      have HR := HR2
      clear HR2
      clear lg
      refine Fw.nil ?_
      refine Fw.X_blockN ?_
      refine hK11 _ _ (Fw.FC.sub (f' := [(23, _), (22, _), (21, _), (6, _)]) (.cons rfl (.cons rfl (.cons rfl (.cons rfl .nil)))) ?_)
      refine Fw.region ?_
      refine Fw.s (Fw.val_bin rfl rfl (Fw.b_add (Fw.i64_ok (by omega)))) rfl ?_
      refine Fw.s (Fw.val_move rfl) rfl ?_
      refine Fw.nil ?_
      rw [← Us.playL_snoc (Us.newL cf) acts k hkn] at HR
      refine Fw.roundEnd _ _ (by omega) ⟨k + 1, rfl, hkn, HR, HB, rfl⟩ (.cons rfl (.cons rfl (.cons rfl (.cons rfl .nil))))
    · rintro hk
      refine Fw.nil ?_
      refine hK8 _ _ ?_
      refine Fw.seq fun _ hK14 => ?_
      refine Fw.condF rfl ?_
      refine Fw.exit ?_
      refine Fw.X_exit ?_
      refine Fw.X_exit ?_
      refine Fw.X_block ?_
      refine hK5 _ _ ?_
      refine Fw.seq fun _ hK15 => ?_
      obtain rfl : k = acts.length := by omega
      rw [List.take_length] at HR
      refine Fw.region ?_
      refine Fw.s (Fw.val_move rfl) rfl ?_
      refine Fw.s (Fw.val_assign rfl) rfl ?_
      refine Fw.s (Fw.val_assign rfl) rfl ?_
      refine Fw.nil ?_
      refine hK15 _ _ ?_
      refine Fw.ret ?_
      refine Fw.ret_ [.tmp 4, .tmp 5] [_, _] Try.results17 (.tmp rfl (.tmp rfl .nil)) ?_
      exact ⟨_, rfl, fun _ => ⟨hle hE, p, g, rfl, HR⟩, HB⟩
  · rw [decide_eq_false hE]
    refine Fw.calls Try.func17 rfl Try.ntmps17 rfl ?_
    have HB := Below.refl (w.heap.size) w
    refine Fw.seq fun _ hK1 => ?_
    refine Fw.region ?_
    refine Fw.s (Fw.val_assign rfl) rfl ?_
    refine Fw.s (Fw.val_assign rfl) rfl ?_
    refine Fw.nil ?_
    refine hK1 _ _ ?_
    refine Fw.seq fun _ hK2 => ?_
    refine Fw.region ?_
    refine Fw.s (Fw.val_move rfl) rfl ?_
    refine Fw.call cf10 rfl rfl (new_any _ A cf c0 (h.low HB)) ?_
    rintro e_ w1 ⟨x, rfl, hx1, -, hb⟩
    refine ⟨_, rfl, ?_⟩
    replace HB := HB.trans (hb.mono HB.size)
    clear hb
    obtain rfl := hx1 hE
    refine Fw.s (Fw.val_move rfl) rfl ?_
    refine Fw.s (Fw.val_extract rfl rfl) rfl ?_
    refine Fw.s (Fw.val_extract rfl rfl) rfl ?_
    refine Fw.s (Fw.val_assign rfl) rfl ?_
    refine Fw.s (Fw.val_assign rfl) rfl ?_
    refine Fw.nil ?_
    refine hK2 _ _ (Fw.FC.sub (f' := [(7, _), (6, _), (1, _)]) (.cons rfl (.cons rfl (.cons rfl .nil))) ?_)
    refine Fw.seq fun _ hK3 => ?_
    refine Fw.seq fun _ hK4 => ?_
    refine Fw.region ?_
    refine Fw.s (Fw.val_move rfl) rfl ?_
    refine Fw.s (Fw.Val.T (Fw.val_bin rfl rfl Fw.b_neq) (by exact hE)) rfl ?_
    refine Fw.s (Fw.val_move rfl) rfl ?_
    refine Fw.gF (d := 17) rfl rfl rfl rfl ?_
    refine Fw.gF (d := 17) rfl rfl rfl rfl ?_
    refine Fw.s (Fw.val_pickT rfl rfl) rfl ?_
    refine Fw.nil ?_
    refine hK4 _ _ ?_
    refine Fw.condT rfl ?_
    refine Fw.seq fun _ hK5 => ?_
    refine Fw.region ?_
    refine Fw.s (Fw.val_assign rfl) rfl ?_
    refine Fw.s (Fw.val_assign rfl) rfl ?_
    refine Fw.nil ?_
    refine hK5 _ _ (Fw.FC.sub (f' := [(5, _), (4, _)]) (.cons rfl (.cons rfl .nil)) ?_)
    refine Fw.ret ?_
    refine Fw.X_ret ?_
    refine Fw.ret_ [.tmp 4, .tmp 5] [_, _] Try.results17 (.tmp rfl (.tmp rfl .nil)) ?_
    exact ⟨_, rfl, fun e => absurd e hE, HB⟩

namespace Us
def k0 : List U := [⟨0, 1, 0, 1, 3, 0, 0, 0, 0, 0, 0, 0, 0, 0, 0⟩]
def k1 : List U := bindL k0 0 5 9 7
def k2 : List U := repL k1 ⟨0, 1, 1, 3, 0⟩ 1 10
def k3 : List U := repL k2 ⟨0, 2, 3, 4, 9⟩ 2 11
def k4 : List U := repL k3 ⟨0, 3, 1, 7, 9⟩ 3 12
theorem kE : newE [⟨1, 0, 3⟩] = 0 ∧ newL [⟨1, 0, 3⟩] = k0 ∧ bindE k0 0 5 9 7 = 0 ∧ pend k1 0 = true ∧ ordI k1 0 = [0, 9, 1, 5, 7] ∧ unitI k2 0 = [0, 1, 0, 2, 3, 1, 1, 5, 9, 0] ∧ unitI k3 0 = [0, 1, 0, 3, 4, 2, 2, 5, 9, 9] ∧ unitI k4 0 = [0, 1, 0, 1, 7, 3, 3, 0, 9, 9] ∧ repGone k3 ⟨0, 3, 1, 7, 9⟩ 3 12 = true ∧ repE k3 ⟨0, 3, 1, 7, 9⟩ 3 12 = 0 := by decide
end Us
set_option maxRecDepth 100000 in
set_option maxHeartbeats 1000000 in
theorem wakes_any (w : World) : Calls Try.prog 9 #[] w fun e_ w' => e_ = .returned (.bool true) ∧ Below w.heap.size w w' := by
  obtain ⟨e1, e2, e3, e4, e5, e6, e7, e8, e9, e10⟩ := Us.kE
  refine Fw.calls Try.func9 rfl Try.ntmps9 rfl ?_
  have HB := Below.refl (w.heap.size) w
  refine Fw.seq fun _ hK1 => ?_
  refine Fw.region ?_
  refine Fw.s (Fw.val_assign rfl) rfl ?_
  refine Fw.nil ?_
  refine hK1 _ _ ?_
  refine Fw.seq fun _ hK2 => ?_
  refine Fw.region ?_
  refine Fw.s (Fw.val_build (ps := [(0, _), (1, _), (2, _)]) rfl (bu66_0_1_2 _ _ _)) rfl ?_
  refine Fw.buildSlice [_] sl22 rfl rfl (by exact Fw.allSz rfl) (by decide) rfl ?_
  intro w1 gS15 egS15 HS15 hb
  have lgS15 : w.heap.size ≤ gS15 := by have := HB.size; omega
  replace HB := HB.trans (hb.mono HB.size)
  clear hb
  clear egS15
  refine Fw.call cf10 rfl rfl (new_any _ (some ⟨gS15, 0, none⟩) [⟨1, 0, 3⟩] 1 (show Rd _ _ (List.flatMap Us.Cfg.cells [⟨1, 0, 3⟩]) from Fw.rdBlk HS15)) ?_
  rintro e_ w2 ⟨x, rfl, -, hx2, hb⟩
  refine ⟨_, rfl, ?_⟩
  have hs0 := HB.size
  replace HS15 := HS15.low hb
  replace HB := HB.trans (hb.mono HB.size)
  clear hb
  obtain ⟨p, g, rfl, HR⟩ := hx2 e1
  replace HR := HR.mono hs0
  rw [e1]
  rw [e2] at HR
  have lp := HR.1
  have lg := HR.2.1
  refine Fw.s (Fw.val_move rfl) rfl ?_
  refine Fw.s (Fw.val_extract rfl rfl) rfl ?_
  refine Fw.s (Fw.val_extract rfl rfl) rfl ?_
  refine Fw.s (Fw.val_assign rfl) rfl ?_
  refine Fw.s (Fw.val_assign rfl) rfl ?_
  refine Fw.nil ?_
  refine hK2 _ _ (Fw.FC.sub (f' := [(2, _), (1, _)]) (.cons rfl (.cons rfl .nil)) ?_)
  refine Fw.seq fun _ hK3 => ?_
  refine Fw.seq fun _ hK4 => ?_
  refine Fw.region ?_
  refine Fw.s (Fw.val_move rfl) rfl ?_
  refine Fw.s (Fw.Val.F (Fw.val_bin rfl rfl Fw.b_neq) (by decide)) rfl ?_
  refine Fw.s (Fw.val_move rfl) rfl ?_
  refine Fw.gT (d := 21) rfl rfl ?_
  refine Fw.s (Fw.val_move rfl) rfl ?_
  refine Fw.gT (d := 21) rfl rfl ?_
  refine Fw.s (Fw.val_bin rfl rfl (Fw.b_nilP Try.underlying24)) rfl ?_
  refine Fw.s (Fw.val_pickF rfl rfl) rfl ?_
  refine Fw.s (Fw.val_move rfl) rfl ?_
  refine Fw.gT (d := 25) rfl rfl ?_
  refine Fw.s (Fw.val_move rfl) rfl ?_
  refine Fw.gT (d := 25) rfl rfl ?_
  refine Fw.call cf22 rfl rfl (by have this := assign_any w2 w.heap.size p g _ Us.k0 0 5 9 7 HR; rw [e3] at this; exact this) ?_
  rintro e_ w3 ⟨rfl, HR2, hc⟩
  refine ⟨_, rfl, ?_⟩
  replace HB := HB.trans (hc.below (B := w.heap.size) (fun k e => by omega) HB.size)
  clear hc
  clear HR
  have HR := HR2
  clear HR2
  refine Fw.gT (d := 25) rfl rfl ?_
  refine Fw.s (Fw.Val.F (Fw.val_bin rfl rfl Fw.b_neq) (by decide)) rfl ?_
  refine Fw.s (Fw.val_pickF rfl rfl) rfl ?_
  refine Fw.nil ?_
  refine hK4 _ _ (Fw.FC.sub (f' := [(29, _), (1, _)]) (.cons rfl (.cons rfl .nil)) ?_)
  refine Fw.condF rfl ?_
  refine Fw.skip ?_
  refine hK3 _ _ ?_
  refine Fw.seq fun _ hK5 => ?_
  refine Fw.region ?_
  refine Fw.s (Fw.val_move rfl) rfl ?_
  refine Fw.call cf13 rfl rfl (by have this := pendingOrder_any w3 w.heap.size p g _ Us.k1 0 HR; rw [e4, show Us.ordA Us.k1 0 = [.int .i64 0, .int .i64 9, .int .i64 1, .int .i64 5, .int .i64 7] by unfold Us.ordA; rw [e5]; rfl] at this; exact this) ?_
  rintro e_ w4 ⟨rfl, hb⟩
  refine ⟨_, rfl, ?_⟩
  replace HR := HR.low hb
  replace HB := HB.trans (hb.mono HB.size)
  clear hb
  refine Fw.s (Fw.val_move rfl) rfl ?_
  refine Fw.s (Fw.val_extract rfl rfl) rfl ?_
  refine Fw.s (Fw.val_extract rfl rfl) rfl ?_
  refine Fw.bT (by rfl) ?_
  refine Fw.alloc ze36 rfl ?_
  intro w5 gX3 egX3 HX3 hb
  have fr_HR_gX3 := HR.fresh egX3
  have lgX3 : w.heap.size ≤ gX3 := by have := HB.size; omega
  replace HR := HR.low hb
  replace HB := HB.trans (hb.mono HB.size)
  clear hb
  clear egX3
  refine Fw.storeW sz36 rfl rfl HX3 rfl rfl (by exact Fw.oneCells rfl) ?_
  intro w6 N_ hc
  replace HR := HR.chg hc fr_HR_gX3.1 fr_HR_gX3.2
  replace HB := HB.trans (hc.below (B := w.heap.size) (fun k e => by omega) HB.size)
  clear hc
  clear HX3
  have HX3 := N_
  clear N_
  refine Fw.s (Fw.val_assign rfl) rfl ?_
  refine Fw.nil ?_
  refine hK5 _ _ ?_
  refine Fw.seq fun _ hK6 => ?_
  refine Fw.region ?_
  refine Fw.s (Fw.val_move rfl) rfl ?_
  refine Fw.s (Fw.val_build (ps := [(0, _), (1, _), (2, _), (3, _)]) rfl (bu45_0_1_2_3 _ _ _ _)) rfl ?_
  refine Fw.call cf18 rfl rfl (by have this := report_any w6 w.heap.size p g _ Us.k1 ⟨0, 1, 1, 3, 0⟩ 1 10 HR; exact this) ?_
  rintro e_ w7 ⟨rfl, HR2, hc⟩
  refine ⟨_, rfl, ?_⟩
  replace HX3 := HX3.chg hc (by omega)
  replace HB := HB.trans (hc.below (B := w.heap.size) (fun k e => by omega) HB.size)
  clear hc
  clear HR
  have HR := HR2
  clear HR2
  refine Fw.nil ?_
  refine hK6 _ _ (Fw.FC.sub (f' := [(4, _), (3, _), (1, _)]) (.cons rfl (.cons rfl (.cons rfl .nil))) ?_)
  refine Fw.seq fun _ hK7 => ?_
  refine Fw.region ?_
  refine Fw.s (Fw.val_move rfl) rfl ?_
  refine Fw.call cf12 rfl rfl (by have this := unit_any w7 w.heap.size p g _ Us.k2 0 HR; rw [show Us.unitA Us.k2 0 = [.int .i64 0, .int .i64 1, .int .i64 0, .int .i64 2, .int .i64 3, .int .i64 1, .int .i64 1, .int .i64 5, .int .i64 9, .int .i64 0] by unfold Us.unitA; rw [e6]; rfl] at this; exact this) ?_
  rintro e_ w8 ⟨rfl, hb⟩
  refine ⟨_, rfl, ?_⟩
  replace HR := HR.low hb
  replace HX3 := HX3.low hb
  replace HB := HB.trans (hb.mono HB.size)
  clear hb
  refine Fw.s (Fw.val_move rfl) rfl ?_
  refine Fw.s (Fw.val_extract rfl rfl) rfl ?_
  refine Fw.s (Fw.val_extract rfl rfl) rfl ?_
  refine Fw.alloc ze32 rfl ?_
  intro w9 gX5 egX5 HX5 hb
  have fr_HR_gX5 := HR.fresh egX5
  have n_gX3_gX5 : gX3 < gX5 := by have := HX3.lt; omega
  have lgX5 : w.heap.size ≤ gX5 := by have := HB.size; omega
  replace HR := HR.low hb
  replace HX3 := HX3.low hb
  replace HB := HB.trans (hb.mono HB.size)
  clear hb
  clear egX5
  refine Fw.storeW sz32 rfl rfl HX5 rfl rfl (by exact Fw.oneCells rfl) ?_
  intro w10 N_ hc
  replace HR := HR.chg hc fr_HR_gX5.1 fr_HR_gX5.2
  replace HX3 := HX3.chg hc (by omega)
  replace HB := HB.trans (hc.below (B := w.heap.size) (fun k e => by omega) HB.size)
  clear hc
  clear HX5
  have HX5 := N_
  clear N_
  refine Fw.s (Fw.val_assign rfl) rfl ?_
  refine Fw.nil ?_
  refine hK7 _ _ ?_
  refine Fw.seq fun _ hK8 => ?_
  refine Fw.region ?_
  refine Fw.s (Fw.val_move rfl) rfl ?_
  refine Fw.s (Fw.val_build (ps := [(0, _), (1, _), (2, _), (3, _), (4, _)]) rfl (bu45_0_1_2_3_4 _ _ _ _ _)) rfl ?_
  refine Fw.call cf18 rfl rfl (by have this := report_any w10 w.heap.size p g _ Us.k2 ⟨0, 2, 3, 4, 9⟩ 2 11 HR; exact this) ?_
  rintro e_ w11 ⟨rfl, HR2, hc⟩
  refine ⟨_, rfl, ?_⟩
  replace HX3 := HX3.chg hc (by omega)
  replace HX5 := HX5.chg hc (by omega)
  replace HB := HB.trans (hc.below (B := w.heap.size) (fun k e => by omega) HB.size)
  clear hc
  clear HR
  have HR := HR2
  clear HR2
  refine Fw.nil ?_
  refine hK8 _ _ (Fw.FC.sub (f' := [(5, _), (4, _), (3, _), (1, _)]) (.cons rfl (.cons rfl (.cons rfl (.cons rfl .nil)))) ?_)
  refine Fw.seq fun _ hK9 => ?_
  refine Fw.region ?_
  refine Fw.s (Fw.val_move rfl) rfl ?_
  refine Fw.call cf12 rfl rfl (by have this := unit_any w11 w.heap.size p g _ Us.k3 0 HR; rw [show Us.unitA Us.k3 0 = [.int .i64 0, .int .i64 1, .int .i64 0, .int .i64 3, .int .i64 4, .int .i64 2, .int .i64 2, .int .i64 5, .int .i64 9, .int .i64 9] by unfold Us.unitA; rw [e7]; rfl] at this; exact this) ?_
  rintro e_ w12 ⟨rfl, hb⟩
  refine ⟨_, rfl, ?_⟩
  replace HR := HR.low hb
  replace HX3 := HX3.low hb
  replace HX5 := HX5.low hb
  replace HB := HB.trans (hb.mono HB.size)
  clear hb
  refine Fw.s (Fw.val_move rfl) rfl ?_
  refine Fw.s (Fw.val_extract rfl rfl) rfl ?_
  refine Fw.s (Fw.val_extract rfl rfl) rfl ?_
  refine Fw.alloc ze32 rfl ?_
  intro w13 gX7 egX7 HX7 hb
  have fr_HR_gX7 := HR.fresh egX7
  have n_gX3_gX7 : gX3 < gX7 := by have := HX3.lt; omega
  have n_gX5_gX7 : gX5 < gX7 := by have := HX5.lt; omega
  have lgX7 : w.heap.size ≤ gX7 := by have := HB.size; omega
  replace HR := HR.low hb
  replace HX3 := HX3.low hb
  replace HX5 := HX5.low hb
  replace HB := HB.trans (hb.mono HB.size)
  clear hb
  clear egX7
  refine Fw.storeW sz32 rfl rfl HX7 rfl rfl (by exact Fw.oneCells rfl) ?_
  intro w14 N_ hc
  replace HR := HR.chg hc fr_HR_gX7.1 fr_HR_gX7.2
  replace HX3 := HX3.chg hc (by omega)
  replace HX5 := HX5.chg hc (by omega)
  replace HB := HB.trans (hc.below (B := w.heap.size) (fun k e => by omega) HB.size)
  clear hc
  clear HX7
  have HX7 := N_
  clear N_
  refine Fw.s (Fw.val_assign rfl) rfl ?_
  refine Fw.nil ?_
  refine hK9 _ _ ?_
  refine Fw.seq fun _ hK10 => ?_
  refine Fw.region ?_
  refine Fw.s (Fw.val_move rfl) rfl ?_
  refine Fw.s (Fw.val_build (ps := [(0, _), (1, _), (2, _), (3, _), (4, _)]) rfl (bu45_0_1_2_3_4 _ _ _ _ _)) rfl ?_
  refine Fw.call cf18 rfl rfl (by have this := report_any w14 w.heap.size p g _ Us.k3 ⟨0, 3, 1, 7, 9⟩ 3 12 HR; rw [e9, e10] at this; exact this) ?_
  rintro e_ w15 ⟨rfl, HR2, hc⟩
  refine ⟨_, rfl, ?_⟩
  replace HX3 := HX3.chg hc (by omega)
  replace HX5 := HX5.chg hc (by omega)
  replace HX7 := HX7.chg hc (by omega)
  replace HB := HB.trans (hc.below (B := w.heap.size) (fun k e => by omega) HB.size)
  clear hc
  clear HR
  have HR := HR2
  clear HR2
  refine Fw.s (Fw.val_move rfl) rfl ?_
  refine Fw.s (Fw.val_extract rfl rfl) rfl ?_
  refine Fw.bT (by rfl) ?_
  refine Fw.s (Fw.val_extract rfl rfl) rfl ?_
  refine Fw.s (Fw.val_assign rfl) rfl ?_
  refine Fw.s (Fw.val_assign rfl) rfl ?_
  refine Fw.nil ?_
  refine hK10 _ _ (Fw.FC.sub (f' := [(10, _), (9, _), (7, _), (5, _), (4, _), (3, _), (1, _)]) (.cons rfl (.cons rfl (.cons rfl (.cons rfl (.cons rfl (.cons rfl (.cons rfl .nil))))))) ?_)
  refine Fw.seq fun _ hK11 => ?_
  refine Fw.region ?_
  refine Fw.s (Fw.val_move rfl) rfl ?_
  refine Fw.call cf12 rfl rfl (by have this := unit_any w15 w.heap.size p g _ Us.k4 0 HR; rw [show Us.unitA Us.k4 0 = [.int .i64 0, .int .i64 1, .int .i64 0, .int .i64 1, .int .i64 7, .int .i64 3, .int .i64 3, .int .i64 0, .int .i64 9, .int .i64 9] by unfold Us.unitA; rw [e8]; rfl] at this; exact this) ?_
  rintro e_ w16 ⟨rfl, hb⟩
  refine ⟨_, rfl, ?_⟩
  replace HR := HR.low hb
  replace HX3 := HX3.low hb
  replace HX5 := HX5.low hb
  replace HX7 := HX7.low hb
  replace HB := HB.trans (hb.mono HB.size)
  clear hb
  refine Fw.s (Fw.val_move rfl) rfl ?_
  refine Fw.s (Fw.val_extract rfl rfl) rfl ?_
  refine Fw.s (Fw.val_extract rfl rfl) rfl ?_
  refine Fw.alloc ze32 rfl ?_
  intro w17 gX11 egX11 HX11 hb
  have fr_HR_gX11 := HR.fresh egX11
  have n_gX3_gX11 : gX3 < gX11 := by have := HX3.lt; omega
  have n_gX5_gX11 : gX5 < gX11 := by have := HX5.lt; omega
  have n_gX7_gX11 : gX7 < gX11 := by have := HX7.lt; omega
  have lgX11 : w.heap.size ≤ gX11 := by have := HB.size; omega
  replace HR := HR.low hb
  replace HX3 := HX3.low hb
  replace HX5 := HX5.low hb
  replace HX7 := HX7.low hb
  replace HB := HB.trans (hb.mono HB.size)
  clear hb
  clear egX11
  refine Fw.storeW sz32 rfl rfl HX11 rfl rfl (by exact Fw.oneCells rfl) ?_
  intro w18 N_ hc
  replace HR := HR.chg hc fr_HR_gX11.1 fr_HR_gX11.2
  replace HX3 := HX3.chg hc (by omega)
  replace HX5 := HX5.chg hc (by omega)
  replace HX7 := HX7.chg hc (by omega)
  replace HB := HB.trans (hc.below (B := w.heap.size) (fun k e => by omega) HB.size)
  clear hc
  clear HX11
  have HX11 := N_
  clear N_
  refine Fw.s (Fw.val_assign rfl) rfl ?_
  refine Fw.nil ?_
  refine hK11 _ _ (Fw.FC.sub (f' := [(11, _), (10, _), (9, _), (7, _), (5, _), (4, _), (3, _)]) (.cons rfl (.cons rfl (.cons rfl (.cons rfl (.cons rfl (.cons rfl (.cons rfl .nil))))))) ?_)
  refine Fw.seq fun _ hK12 => ?_
  refine Fw.region ?_
  refine Fw.s (Fw.val_move rfl) rfl ?_
  refine Fw.s (Fw.val_move rfl) rfl ?_
  refine Fw.gT (d := 63) rfl rfl ?_
  refine Fw.s (Fw.val_fieldAddr fl36_2 rfl rfl) rfl ?_
  refine Fw.gT (d := 63) rfl rfl ?_
  refine Fw.ld sc3 rfl (HX3.cell 2) rfl ?_
  refine Fw.gT (d := 63) rfl rfl ?_
  refine Fw.s (Fw.Val.T (Fw.val_bin rfl rfl Fw.b_eql) (by decide)) rfl ?_
  refine Fw.s (Fw.val_pickT rfl rfl) rfl ?_
  refine Fw.s (Fw.val_move rfl) rfl ?_
  refine Fw.gT (d := 68) rfl rfl ?_
  refine Fw.s (Fw.val_fieldAddr fl36_1 rfl rfl) rfl ?_
  refine Fw.gT (d := 68) rfl rfl ?_
  refine Fw.ld sc2 rfl (HX3.cell 1) rfl ?_
  refine Fw.gT (d := 68) rfl rfl ?_
  refine Fw.s (Fw.Val.T (Fw.val_bin rfl rfl Fw.b_eql) (by decide)) rfl ?_
  refine Fw.s (Fw.val_pickT rfl rfl) rfl ?_
  refine Fw.s (Fw.val_move rfl) rfl ?_
  refine Fw.gT (d := 73) rfl rfl ?_
  refine Fw.s (Fw.val_fieldAddr fl36_4 rfl rfl) rfl ?_
  refine Fw.gT (d := 73) rfl rfl ?_
  refine Fw.ld sc3 rfl (HX3.cell 4) rfl ?_
  refine Fw.gT (d := 73) rfl rfl ?_
  refine Fw.s (Fw.Val.T (Fw.val_bin rfl rfl Fw.b_eql) (by decide)) rfl ?_
  refine Fw.s (Fw.val_pickT rfl rfl) rfl ?_
  refine Fw.s (Fw.val_move rfl) rfl ?_
  refine Fw.gT (d := 78) rfl rfl ?_
  refine Fw.s (Fw.val_fieldAddr fl32_3 rfl rfl) rfl ?_
  refine Fw.gT (d := 78) rfl rfl ?_
  refine Fw.ld sc3 rfl (HX5.cell 3) rfl ?_
  refine Fw.gT (d := 78) rfl rfl ?_
  refine Fw.s (Fw.Val.T (Fw.val_bin rfl rfl Fw.b_eql) (by decide)) rfl ?_
  refine Fw.s (Fw.val_pickT rfl rfl) rfl ?_
  refine Fw.s (Fw.val_move rfl) rfl ?_
  refine Fw.gT (d := 83) rfl rfl ?_
  refine Fw.s (Fw.val_fieldAddr fl32_3 rfl rfl) rfl ?_
  refine Fw.gT (d := 83) rfl rfl ?_
  refine Fw.ld sc3 rfl (HX7.cell 3) rfl ?_
  refine Fw.gT (d := 83) rfl rfl ?_
  refine Fw.s (Fw.Val.T (Fw.val_bin rfl rfl Fw.b_eql) (by decide)) rfl ?_
  refine Fw.s (Fw.val_pickT rfl rfl) rfl ?_
  refine Fw.s (Fw.val_move rfl) rfl ?_
  refine Fw.gT (d := 88) rfl rfl ?_
  refine Fw.s (Fw.val_fieldAddr fl32_7 rfl rfl) rfl ?_
  refine Fw.gT (d := 88) rfl rfl ?_
  refine Fw.ld sc2 rfl (HX7.cell 7) rfl ?_
  refine Fw.gT (d := 88) rfl rfl ?_
  refine Fw.s (Fw.Val.T (Fw.val_bin rfl rfl Fw.b_eql) (by decide)) rfl ?_
  refine Fw.s (Fw.val_pickT rfl rfl) rfl ?_
  refine Fw.s (Fw.val_move rfl) rfl ?_
  refine Fw.gT (d := 93) rfl rfl ?_
  refine Fw.s (Fw.val_move rfl) rfl ?_
  refine Fw.s (Fw.val_pickT rfl rfl) rfl ?_
  refine Fw.s (Fw.val_move rfl) rfl ?_
  refine Fw.gT (d := 96) rfl rfl ?_
  refine Fw.s (Fw.val_move rfl) rfl ?_
  refine Fw.gT (d := 96) rfl rfl ?_
  refine Fw.s (Fw.Val.T (Fw.val_bin rfl rfl Fw.b_eql) (by decide)) rfl ?_
  refine Fw.s (Fw.val_pickT rfl rfl) rfl ?_
  refine Fw.s (Fw.val_move rfl) rfl ?_
  refine Fw.gT (d := 100) rfl rfl ?_
  refine Fw.s (Fw.val_fieldAddr fl32_3 rfl rfl) rfl ?_
  refine Fw.gT (d := 100) rfl rfl ?_
  refine Fw.ld sc3 rfl (HX11.cell 3) rfl ?_
  refine Fw.gT (d := 100) rfl rfl ?_
  refine Fw.s (Fw.Val.T (Fw.val_bin rfl rfl Fw.b_eql) (by decide)) rfl ?_
  refine Fw.s (Fw.val_pickT rfl rfl) rfl ?_
  refine Fw.s (Fw.val_move rfl) rfl ?_
  refine Fw.gT (d := 105) rfl rfl ?_
  refine Fw.s (Fw.val_fieldAddr fl32_7 rfl rfl) rfl ?_
  refine Fw.gT (d := 105) rfl rfl ?_
  refine Fw.ld sc2 rfl (HX11.cell 7) rfl ?_
  refine Fw.gT (d := 105) rfl rfl ?_
  refine Fw.s (Fw.Val.T (Fw.val_bin rfl rfl Fw.b_eql) (by decide)) rfl ?_
  refine Fw.s (Fw.val_pickT rfl rfl) rfl ?_
  refine Fw.s (Fw.val_assign rfl) rfl ?_
  refine Fw.nil ?_
  refine hK12 _ _ (Fw.FC.sub (f' := [(0, _)]) (.cons rfl .nil) ?_)
  refine Fw.ret ?_
  refine Fw.ret_ [.tmp 0] [_] Try.results9 (.tmp rfl .nil) ?_
  exact ⟨rfl, HB⟩

end Go.Proofs.Ytmohhociomghhaa
