/- Layer 9: the laws From, PathTime, Path, Verify. -/
import Derived.Test.YtenljoccfjlncaaRgL
namespace Go.Proofs.Ytenljoccfjlncaa
set_option linter.unusedSimpArgs false
set_option linter.unusedVariables false
open Go.RowKit

theorem same2_any (w : World) (n n' : Nat) (A : Option Addr) (l : List Int) (c : Nat) (hl : l.length = n) (h : Rd w A (l.map (.int .i64))) (hn : n ≤ 65536) (A' : Option Addr) (l' : List Int) (c' : Nat) (hl' : l'.length = n') (h' : Rd w A' (l'.map (.int .i64))) : Calls Try.prog 14 #[.slice A n c, .slice A' n' c'] w fun e_ w' => e_ = .returned (.bool (decide (l = l'))) ∧ Below w.heap.size w w' := by
  subst hl hl'; exact same_any w A l c h hn A' l' c' h'
theorem verify2_any (w : World) (g : Nat) (N : Nat) (E : List Rg.Ed) (hG : Rg.GAt w g N E) (hN : N ≤ 12) (hEl : E.length ≤ 65536) (hEO : Rg.EOk N E) (A : Option Addr) (ts : List Int) (c : Nat) (h : Rd w A (ts.map (.int .i64))) (An : Option Addr) (ends : List Int) (cn : Nat) (hnl : ends.length ≤ 65536) (hen : Rd w An (ends.map (.int .i64))) (Ad : Option Addr) (n : Nat) (dist : List Int) (cd : Nat) (hn : dist.length = n) (hdi : Rd w Ad (dist.map (.int .i64))) (hdl : n ≤ 65536) : Calls Try.prog 23 #[.pointer (some ⟨g, 0, none⟩), .slice A ts.length c, .slice An ends.length cn, .slice Ad n cd] w fun e_ w' => e_ = .returned (.bool (decide (dist = Sp.rounds (Rg.arcT N E ts true) (Sp.init N ends) N))) ∧ Below w.heap.size w w' := by
  subst hn
  refine (verify_any w g N E hG hN hEl hEO A ts c h An ends cn hnl hen Ad dist cd hdi hdl).mono fun e_ w' h_ => ?_
  obtain ⟨dl, rfl, hdl, hdist, hb⟩ := h_
  rw [show Sp.rounds (Rg.arcT N E ts true) (Sp.init N ends) N = dl from Sp.rounds_list (Rg.arcT_ok ts true hEO) hdl hdist]
  exact ⟨rfl, hb⟩
theorem Rg.rounds_len {A : Sp.Arcs} {W : Int} (hA : A.Ok W) (ends : List Int) : (Sp.rounds A (Sp.init A.N ends) A.N).length = A.N := (Sp.Bd.rounds hA (Sp.Bd.init A.N ends) A.N).1
set_option maxRecDepth 100000 in
set_option maxHeartbeats 1000000 in
theorem lfrom_no (w : World) (N : Int) (R : List Rg.Re) (Ae : Option Addr) (ce : Nat) (hR : Rd w Ae (R.flatMap Rg.Re.cells)) (hno : ¬ Rg.Right N R) (A : Option Addr) (ts : List Int) (c : Nat) (h : Rd w A (ts.map (.int .i64))) (An : Option Addr) (ends : List Int) (cn : Nat) (hen : Rd w An (ends.map (.int .i64))) : Calls Try.prog 3 #[.agg #[.int .i64 N, .slice Ae R.length ce], .slice A ts.length c, .slice An ends.length cn] w fun e_ w' => e_ = .returned (.bool true) ∧ Below w.heap.size w w' := by
  refine Fw.calls Try.func3 rfl Try.ntmps3 rfl ?_
  have HB := Below.refl (w.heap.size) w
  refine Fw.seq fun _ hK1 => ?_
  refine Fw.region ?_
  refine Fw.box rfl rfl ?_
  intro w1 gn egn Hn hb
  have lgn : w.heap.size ≤ gn := by have := HB.size; omega
  replace HB := HB.trans (hb.mono HB.size)
  clear hb
  clear egn
  refine Fw.s (Fw.val_assign rfl) rfl ?_
  refine Fw.nil ?_
  refine hK1 _ _ ?_
  refine Fw.seq fun _ hK2 => ?_
  refine Fw.region ?_
  refine Fw.ldA ag24 rfl (Fw.rdBlk Hn) rfl rfl ?_
  refine Fw.call cf11 rfl rfl (netNo_any _ N R Ae ce (hR.low HB) hno) ?_
  rintro e_ w2 ⟨rfl, hb⟩
  refine ⟨_, rfl, ?_⟩
  replace Hn := Hn.low hb
  replace HB := HB.trans (hb.mono HB.size)
  clear hb
  refine Fw.s (Fw.val_assign rfl) rfl ?_
  refine Fw.nil ?_
  refine hK2 _ _ ?_
  refine Fw.seq fun _ hK3 => ?_
  refine Fw.seq fun _ hK4 => ?_
  refine Fw.region ?_
  refine Fw.call cf12 rfl rfl (lawake_any _) ?_
  rintro e_ w3 ⟨rfl, hb⟩
  refine ⟨_, rfl, ?_⟩
  replace Hn := Hn.low hb
  replace HB := HB.trans (hb.mono HB.size)
  clear hb
  refine Fw.s (Fw.val_not rfl) rfl ?_
  refine Fw.s (Fw.val_move rfl) rfl ?_
  refine Fw.gT (d := 12) rfl rfl ?_
  refine Fw.s (Fw.val_move rfl) rfl ?_
  refine Fw.gT (d := 12) rfl rfl ?_
  refine Fw.s (Fw.val_bin rfl rfl (Fw.b_nilP Try.underlying27)) rfl ?_
  refine Fw.s (Fw.val_pickF rfl rfl) rfl ?_
  refine Fw.s (Fw.val_move rfl) rfl ?_
  refine Fw.gF (d := 16) rfl rfl rfl rfl ?_
  refine Fw.gF (d := 16) rfl rfl rfl rfl ?_
  refine Fw.gF (d := 16) rfl rfl rfl rfl ?_
  refine Fw.gF (d := 16) rfl rfl rfl rfl ?_
  refine Fw.s (Fw.val_pickT rfl rfl) rfl ?_
  refine Fw.nil ?_
  refine hK4 _ _ (Fw.FC.sub (f' := [(21, _), (7, _), (3, _), (1, _), (2, _)]) (.cons rfl (.cons rfl (.cons rfl (.cons rfl (.cons rfl .nil))))) ?_)
  refine Fw.condT rfl ?_
  refine Fw.seq fun _ hK5 => ?_
  refine Fw.region ?_
  refine Fw.call cf12 rfl rfl (lawake_any _) ?_
  rintro e_ w4 ⟨rfl, hb⟩
  refine ⟨_, rfl, ?_⟩
  replace Hn := Hn.low hb
  replace HB := HB.trans (hb.mono HB.size)
  clear hb
  refine Fw.s (Fw.val_assign rfl) rfl ?_
  refine Fw.nil ?_
  refine hK5 _ _ ?_
  refine Fw.ret ?_
  refine Fw.X_ret ?_
  refine Fw.ret_ [.tmp 6] [_] Try.results3 (.tmp rfl .nil) ?_
  exact ⟨rfl, HB⟩

set_option maxRecDepth 100000 in
set_option maxHeartbeats 1000000 in
theorem lfrom_yes (w : World) (N : Nat) (E : List Rg.Ed) (Ae : Option Addr) (ce : Nat) (hE : Rd w Ae (E.flatMap Rg.Ed.cells)) (hn : Rg.Net N E) (A : Option Addr) (ts : List Int) (c : Nat) (h : Rd w A (ts.map (.int .i64))) (An : Option Addr) (ends : List Int) (cn : Nat) (hen : Rd w An (ends.map (.int .i64)))  : Calls Try.prog 3 #[.agg #[.int .i64 (N : Int), .slice Ae E.length ce], .slice A ts.length c, .slice An ends.length cn] w fun e_ w' => e_ = .returned (.bool true) ∧ Below w.heap.size w w' := by
  have hn1 := hn.n
  have hn2 := hn.e
  refine Fw.calls Try.func3 rfl Try.ntmps3 rfl ?_
  have HB := Below.refl (w.heap.size) w
  refine Fw.seq fun _ hK1 => ?_
  refine Fw.region ?_
  refine Fw.box rfl rfl ?_
  intro w1 gn egn Hn hb
  have lgn : w.heap.size ≤ gn := by have := HB.size; omega
  replace HB := HB.trans (hb.mono HB.size)
  clear hb
  clear egn
  refine Fw.s (Fw.val_assign rfl) rfl ?_
  refine Fw.nil ?_
  refine hK1 _ _ ?_
  refine Fw.seq fun _ hK2 => ?_
  refine Fw.region ?_
  refine Fw.ldA ag24 rfl (Fw.rdBlk Hn) rfl rfl ?_
  refine Fw.call cf11 rfl rfl (net_any _ N E Ae ce (hE.low HB) hn) ?_
  rintro e_ w2 ⟨g, rfl, HG, hb⟩
  refine ⟨_, rfl, ?_⟩
  replace Hn := Hn.low hb
  replace HB := HB.trans (hb.mono HB.size)
  clear hb
  refine Fw.s (Fw.val_assign rfl) rfl ?_
  refine Fw.nil ?_
  refine hK2 _ _ ?_
  refine Fw.seq fun _ hK3 => ?_
  refine Fw.seq fun _ hK4 => ?_
  refine Fw.region ?_
  refine Fw.call cf12 rfl rfl (lawake_any _) ?_
  rintro e_ w3 ⟨rfl, hb⟩
  refine ⟨_, rfl, ?_⟩
  replace Hn := Hn.low hb
  replace HG := HG.low hb
  replace HB := HB.trans (hb.mono HB.size)
  clear hb
  refine Fw.s (Fw.val_not rfl) rfl ?_
  refine Fw.s (Fw.val_move rfl) rfl ?_
  refine Fw.gT (d := 12) rfl rfl ?_
  refine Fw.s (Fw.val_move rfl) rfl ?_
  refine Fw.gT (d := 12) rfl rfl ?_
  refine Fw.s (Fw.val_bin rfl rfl (Fw.b_nilP Try.underlying27)) rfl ?_
  refine Fw.s (Fw.val_pickF rfl rfl) rfl ?_
  refine Fw.s (Fw.val_move rfl) rfl ?_
  refine Fw.gT (d := 16) rfl rfl ?_
  refine Fw.s (Fw.val_move rfl) rfl ?_
  refine Fw.gT (d := 16) rfl rfl ?_
  refine Fw.s (Fw.val_move rfl) rfl ?_
  refine Fw.gT (d := 16) rfl rfl ?_
  refine Fw.call cf13 rfl rfl (lfew_any _ A ts.length c An ends.length cn) ?_
  rintro e_ _ ⟨rfl, rfl⟩
  refine ⟨_, rfl, ?_⟩
  refine Fw.b2 ?_ ?_
  · rintro hf
    refine Fw.gT (d := 16) rfl rfl ?_
    refine Fw.s (Fw.val_not rfl) rfl ?_
    refine Fw.s (Fw.val_pickF rfl rfl) rfl ?_
    refine Fw.nil ?_
    refine hK4 _ _ (Fw.FC.sub (f' := [(21, _), (7, _), (3, _), (1, _), (2, _)]) (.cons rfl (.cons rfl (.cons rfl (.cons rfl (.cons rfl .nil))))) ?_)
    refine Fw.condF rfl ?_
    refine Fw.skip ?_
    refine hK3 _ _ ?_
    refine Fw.seq fun _ hK5 => ?_
    have hf := of_decide_eq_true hf
    refine Fw.regionH (by kernel_rfl) ?_
    have R_Hn := Hn
    have R_HB := HB
    intro w4 hb
    have HS := hb
    replace Hn := Hn.low hb
    replace HG := HG.low hb
    replace HB := HB.trans (hb.mono HB.size)
    clear hb
    refine Fw.hTake 0 rfl rfl (by kernel_rfl) (by kernel_rfl) (by kernel_rfl) (Fw.yV (Fw.val_move rfl)) rfl ?_
    refine Fw.hTake 1 rfl rfl (by kernel_rfl) (by kernel_rfl) (by kernel_rfl) (Fw.yV (Fw.val_move rfl)) rfl ?_
    refine Fw.hTake 3 rfl rfl (by kernel_rfl) (by kernel_rfl) (by kernel_rfl) (Fw.yV (Fw.val_move rfl)) rfl ?_
    refine Fw.hTake 6 rfl rfl (by kernel_rfl) (by kernel_rfl) (by kernel_rfl) (Fw.yV (Fw.hLdA ag24 rfl (Fw.rdBlk R_Hn) rfl)) rfl ?_
    refine Fw.hTake 7 rfl rfl (by kernel_rfl) (by kernel_rfl) (by kernel_rfl) (Fw.yV (Fw.val_move rfl)) rfl ?_
    refine Fw.hTake 8 rfl rfl (by kernel_rfl) (by kernel_rfl) (by kernel_rfl) (Fw.yV (Fw.val_move rfl)) rfl ?_
    refine Fw.hAll1 2 (by kernel_rfl) ?_
    refine Fw.hOp 2 rfl ?_
    refine Fw.call cf16 rfl rfl (longs_any _ A ts c (h.low HB) (by omega)) ?_
    rintro e_ w5 ⟨AL, cL, rfl, HL, hb⟩
    refine ⟨_, rfl, ?_⟩
    replace Hn := Hn.low hb
    replace HG := HG.low hb
    replace HS := HS.trans (hb.mono HS.size)
    replace HB := HB.trans (hb.mono HB.size)
    clear hb
    refine Fw.hNext HS ?_
    refine Fw.hAll1 4 (by kernel_rfl) ?_
    refine Fw.hOp 4 rfl ?_
    refine Fw.call cf17 rfl rfl (ints_any _ An ends cn (hen.low HB) (by omega)) ?_
    rintro e_ w6 ⟨AI, cI, rfl, HI, hb⟩
    refine ⟨_, rfl, ?_⟩
    replace Hn := Hn.low hb
    replace HG := HG.low hb
    replace HS := HS.trans (hb.mono HS.size)
    replace HL := own_below HL hb (Nat.le_refl _)
    replace HB := HB.trans (hb.mono HB.size)
    clear hb
    refine Fw.hNext HS ?_
    refine Fw.hAll1 5 (by kernel_rfl) ?_
    refine Fw.hOp 5 rfl ?_
    refine Fw.call cf15 rfl rfl (from_any _ g N E HG (by omega) (by omega) hn.ok AL ts cL (Rd.of_own HL) AI ends cI (by omega) (Rd.of_own HI)) ?_
    rintro e_ w7 ⟨AF, cF, dl, rfl, HF, hdl, hdist, hb⟩
    refine ⟨_, rfl, ?_⟩
    replace Hn := Hn.low hb
    replace HG := HG.low hb
    replace HS := HS.trans (hb.mono HS.size)
    replace HL := own_below HL hb (Nat.le_refl _)
    replace HI := own_below HI hb (Nat.le_refl _)
    replace HB := HB.trans (hb.mono HB.size)
    clear hb
    refine Fw.hNext HS ?_
    refine Fw.hAll1 9 (by kernel_rfl) ?_
    refine Fw.hOp 9 rfl ?_
    refine Fw.call cf18 rfl rfl (refFrom_any _ N E Ae ce (hE.low HB) hn.ok (by omega) (by omega) A ts c (h.low HB) An ends cn (by omega) (hen.low HB)) ?_
    rintro e_ w8 ⟨AR, cR, rfl, HR, hb⟩
    refine ⟨_, rfl, ?_⟩
    replace Hn := Hn.low hb
    replace HG := HG.low hb
    replace HS := HS.trans (hb.mono HS.size)
    replace HL := own_below HL hb (Nat.le_refl _)
    replace HI := own_below HI hb (Nat.le_refl _)
    replace HF := own_below HF hb (Nat.le_refl _)
    replace HB := HB.trans (hb.mono HB.size)
    clear hb
    refine Fw.hNext HS ?_
    refine Fw.hAll1 10 (by kernel_rfl) ?_
    refine Fw.hOp 10 rfl ?_
    refine Fw.call cf14 rfl rfl (same2_any _ N N AF dl cF hdl (Rd.of_own HF) (by omega) AR _ cR (Rg.rounds_len (Rg.arcT_ok ts true hn.ok) ends) (Rd.of_own HR)) ?_
    rintro e_ w9 ⟨rfl, hb⟩
    refine ⟨_, rfl, ?_⟩
    replace Hn := Hn.low hb
    replace HG := HG.low hb
    replace HS := HS.trans (hb.mono HS.size)
    replace HL := own_below HL hb (Nat.le_refl _)
    replace HI := own_below HI hb (Nat.le_refl _)
    replace HF := own_below HF hb (Nat.le_refl _)
    replace HR := own_below HR hb (Nat.le_refl _)
    replace HB := HB.trans (hb.mono HB.size)
    clear hb
    rw [decide_eq_true (Sp.rounds_list (Rg.arcT_ok ts true hn.ok) hdl hdist).symm]
    refine Fw.hNext HS ?_
    refine Fw.hTake 11 rfl rfl (by kernel_rfl) (by kernel_rfl) (by kernel_rfl) (Fw.yV (Fw.val_assign rfl)) rfl ?_
    refine Fw.hDone (by kernel_rfl) ?_
    refine hK5 _ _ (Fw.FC.sub (f' := [(6, _)]) (.cons rfl .nil) ?_)
    refine Fw.ret ?_
    refine Fw.ret_ [.tmp 6] [_] Try.results3 (.tmp rfl .nil) ?_
    exact ⟨rfl, HB⟩
  · rintro hf
    refine Fw.gT (d := 16) rfl rfl ?_
    refine Fw.s (Fw.val_not rfl) rfl ?_
    refine Fw.s (Fw.val_pickF rfl rfl) rfl ?_
    refine Fw.nil ?_
    refine hK4 _ _ (Fw.FC.sub (f' := [(21, _), (7, _), (3, _), (1, _), (2, _)]) (.cons rfl (.cons rfl (.cons rfl (.cons rfl (.cons rfl .nil))))) ?_)
    refine Fw.condT rfl ?_
    refine Fw.seq fun _ hK6 => ?_
    refine Fw.region ?_
    refine Fw.call cf12 rfl rfl (lawake_any _) ?_
    rintro e_ w10 ⟨rfl, hb⟩
    refine ⟨_, rfl, ?_⟩
    replace Hn := Hn.low hb
    replace HG := HG.low hb
    replace HB := HB.trans (hb.mono HB.size)
    clear hb
    refine Fw.s (Fw.val_assign rfl) rfl ?_
    refine Fw.nil ?_
    refine hK6 _ _ ?_
    refine Fw.ret ?_
    refine Fw.X_ret ?_
    refine Fw.ret_ [.tmp 6] [_] Try.results3 (.tmp rfl .nil) ?_
    exact ⟨rfl, HB⟩

set_option maxRecDepth 100000 in
set_option maxHeartbeats 1000000 in
theorem lptime_no (w : World) (N : Int) (R : List Rg.Re) (Ae : Option Addr) (ce : Nat) (hR : Rd w Ae (R.flatMap Rg.Re.cells)) (hno : ¬ Rg.Right N R) (A : Option Addr) (ts : List Int) (c : Nat) (h : Rd w A (ts.map (.int .i64))) (Aw : Option Addr) (way : List Int) (cw : Nat) (hw : Rd w Aw (way.map (.int .i64))) (a b : Int) : Calls Try.prog 5 #[.agg #[.int .i64 N, .slice Ae R.length ce], .slice A ts.length c, .agg #[.slice Aw way.length cw, .int .i64 a, .int .i64 b]] w fun e_ w' => e_ = .returned (.bool true) ∧ Below w.heap.size w w' := by
  refine Fw.calls Try.func5 rfl Try.ntmps5 rfl ?_
  have HB := Below.refl (w.heap.size) w
  refine Fw.seq fun _ hK1 => ?_
  refine Fw.region ?_
  refine Fw.box rfl rfl ?_
  intro w1 gn egn Hn hb
  have lgn : w.heap.size ≤ gn := by have := HB.size; omega
  replace HB := HB.trans (hb.mono HB.size)
  clear hb
  clear egn
  refine Fw.box rfl rfl ?_
  intro w2 gx egx Hx hb
  have n_gn_gx : gn < gx := by have := Hn.lt; omega
  have lgx : w.heap.size ≤ gx := by have := HB.size; omega
  replace Hn := Hn.low hb
  replace HB := HB.trans (hb.mono HB.size)
  clear hb
  clear egx
  refine Fw.s (Fw.val_assign rfl) rfl ?_
  refine Fw.nil ?_
  refine hK1 _ _ ?_
  refine Fw.seq fun _ hK2 => ?_
  refine Fw.region ?_
  refine Fw.ldA ag24 rfl (Fw.rdBlk Hn) rfl rfl ?_
  refine Fw.call cf11 rfl rfl (netNo_any _ N R Ae ce (hR.low HB) hno) ?_
  rintro e_ w3 ⟨rfl, hb⟩
  refine ⟨_, rfl, ?_⟩
  replace Hn := Hn.low hb
  replace Hx := Hx.low hb
  replace HB := HB.trans (hb.mono HB.size)
  clear hb
  refine Fw.s (Fw.val_assign rfl) rfl ?_
  refine Fw.nil ?_
  refine hK2 _ _ ?_
  refine Fw.seq fun _ hK3 => ?_
  refine Fw.seq fun _ hK4 => ?_
  refine Fw.region ?_
  refine Fw.call cf12 rfl rfl (lawake_any _) ?_
  rintro e_ w4 ⟨rfl, hb⟩
  refine ⟨_, rfl, ?_⟩
  replace Hn := Hn.low hb
  replace Hx := Hx.low hb
  replace HB := HB.trans (hb.mono HB.size)
  clear hb
  refine Fw.s (Fw.val_not rfl) rfl ?_
  refine Fw.s (Fw.val_move rfl) rfl ?_
  refine Fw.gT (d := 16) rfl rfl ?_
  refine Fw.s (Fw.val_move rfl) rfl ?_
  refine Fw.gT (d := 16) rfl rfl ?_
  refine Fw.s (Fw.val_bin rfl rfl (Fw.b_nilP Try.underlying27)) rfl ?_
  refine Fw.s (Fw.val_pickF rfl rfl) rfl ?_
  refine Fw.s (Fw.val_move rfl) rfl ?_
  refine Fw.gF (d := 20) rfl rfl rfl rfl ?_
  refine Fw.gF (d := 20) rfl rfl rfl rfl ?_
  refine Fw.gF (d := 20) rfl rfl rfl rfl ?_
  refine Fw.gF (d := 20) rfl rfl rfl rfl ?_
  refine Fw.gF (d := 20) rfl rfl rfl rfl ?_
  refine Fw.s (Fw.val_pickT rfl rfl) rfl ?_
  refine Fw.nil ?_
  refine hK4 _ _ (Fw.FC.sub (f' := [(26, _), (7, _), (5, _), (3, _), (1, _)]) (.cons rfl (.cons rfl (.cons rfl (.cons rfl (.cons rfl .nil))))) ?_)
  refine Fw.condT rfl ?_
  refine Fw.seq fun _ hK5 => ?_
  refine Fw.region ?_
  refine Fw.call cf12 rfl rfl (lawake_any _) ?_
  rintro e_ w5 ⟨rfl, hb⟩
  refine ⟨_, rfl, ?_⟩
  replace Hn := Hn.low hb
  replace Hx := Hx.low hb
  replace HB := HB.trans (hb.mono HB.size)
  clear hb
  refine Fw.s (Fw.val_assign rfl) rfl ?_
  refine Fw.nil ?_
  refine hK5 _ _ ?_
  refine Fw.ret ?_
  refine Fw.X_ret ?_
  refine Fw.ret_ [.tmp 6] [_] Try.results5 (.tmp rfl .nil) ?_
  exact ⟨rfl, HB⟩

set_option maxRecDepth 100000 in
set_option maxHeartbeats 1000000 in
theorem lptime_yes (w : World) (N : Nat) (E : List Rg.Ed) (Ae : Option Addr) (ce : Nat) (hE : Rd w Ae (E.flatMap Rg.Ed.cells)) (hn : Rg.Net N E) (A : Option Addr) (ts : List Int) (c : Nat) (h : Rd w A (ts.map (.int .i64))) (Aw : Option Addr) (way : List Int) (cw : Nat) (hw : Rd w Aw (way.map (.int .i64))) (a b : Int)  : Calls Try.prog 5 #[.agg #[.int .i64 (N : Int), .slice Ae E.length ce], .slice A ts.length c, .agg #[.slice Aw way.length cw, .int .i64 a, .int .i64 b]] w fun e_ w' => e_ = .returned (.bool true) ∧ Below w.heap.size w w' := by
  have hn1 := hn.n
  have hn2 := hn.e
  refine Fw.calls Try.func5 rfl Try.ntmps5 rfl ?_
  have HB := Below.refl (w.heap.size) w
  refine Fw.seq fun _ hK1 => ?_
  refine Fw.region ?_
  refine Fw.box rfl rfl ?_
  intro w1 gn egn Hn hb
  have lgn : w.heap.size ≤ gn := by have := HB.size; omega
  replace HB := HB.trans (hb.mono HB.size)
  clear hb
  clear egn
  refine Fw.box rfl rfl ?_
  intro w2 gx egx Hx hb
  have n_gn_gx : gn < gx := by have := Hn.lt; omega
  have lgx : w.heap.size ≤ gx := by have := HB.size; omega
  replace Hn := Hn.low hb
  replace HB := HB.trans (hb.mono HB.size)
  clear hb
  clear egx
  refine Fw.s (Fw.val_assign rfl) rfl ?_
  refine Fw.nil ?_
  refine hK1 _ _ ?_
  refine Fw.seq fun _ hK2 => ?_
  refine Fw.region ?_
  refine Fw.ldA ag24 rfl (Fw.rdBlk Hn) rfl rfl ?_
  refine Fw.call cf11 rfl rfl (net_any _ N E Ae ce (hE.low HB) hn) ?_
  rintro e_ w3 ⟨g, rfl, HG, hb⟩
  refine ⟨_, rfl, ?_⟩
  replace Hn := Hn.low hb
  replace Hx := Hx.low hb
  replace HB := HB.trans (hb.mono HB.size)
  clear hb
  refine Fw.s (Fw.val_assign rfl) rfl ?_
  refine Fw.nil ?_
  refine hK2 _ _ ?_
  refine Fw.seq fun _ hK3 => ?_
  refine Fw.seq fun _ hK4 => ?_
  refine Fw.region ?_
  refine Fw.call cf12 rfl rfl (lawake_any _) ?_
  rintro e_ w4 ⟨rfl, hb⟩
  refine ⟨_, rfl, ?_⟩
  replace Hn := Hn.low hb
  replace Hx := Hx.low hb
  replace HG := HG.low hb
  replace HB := HB.trans (hb.mono HB.size)
  clear hb
  refine Fw.s (Fw.val_not rfl) rfl ?_
  refine Fw.s (Fw.val_move rfl) rfl ?_
  refine Fw.gT (d := 16) rfl rfl ?_
  refine Fw.s (Fw.val_move rfl) rfl ?_
  refine Fw.gT (d := 16) rfl rfl ?_
  refine Fw.s (Fw.val_bin rfl rfl (Fw.b_nilP Try.underlying27)) rfl ?_
  refine Fw.s (Fw.val_pickF rfl rfl) rfl ?_
  refine Fw.s (Fw.val_move rfl) rfl ?_
  refine Fw.gT (d := 20) rfl rfl ?_
  refine Fw.s (Fw.val_move rfl) rfl ?_
  refine Fw.gT (d := 20) rfl rfl ?_
  refine Fw.s (Fw.val_fieldAddr fl43_0 rfl rfl) rfl ?_
  refine Fw.gT (d := 20) rfl rfl ?_
  refine Fw.ld sc26 rfl (Hx.cell 0) rfl ?_
  refine Fw.gT (d := 20) rfl rfl ?_
  refine Fw.call cf13 rfl rfl (lfew_any _ A ts.length c Aw way.length cw) ?_
  rintro e_ _ ⟨rfl, rfl⟩
  refine ⟨_, rfl, ?_⟩
  refine Fw.b2 ?_ ?_
  · rintro hf
    refine Fw.gT (d := 20) rfl rfl ?_
    refine Fw.s (Fw.val_not rfl) rfl ?_
    refine Fw.s (Fw.val_pickF rfl rfl) rfl ?_
    refine Fw.nil ?_
    refine hK4 _ _ (Fw.FC.sub (f' := [(26, _), (7, _), (5, _), (3, _), (1, _)]) (.cons rfl (.cons rfl (.cons rfl (.cons rfl (.cons rfl .nil))))) ?_)
    refine Fw.condF rfl ?_
    refine Fw.skip ?_
    refine hK3 _ _ ?_
    refine Fw.seq fun _ hK5 => ?_
    have hf := of_decide_eq_true hf
    refine Fw.regionH (by kernel_rfl) ?_
    have R_Hn := Hn
    have R_Hx := Hx
    have R_HB := HB
    intro w5 hb
    have HS := hb
    replace Hn := Hn.low hb
    replace Hx := Hx.low hb
    replace HG := HG.low hb
    replace HB := HB.trans (hb.mono HB.size)
    clear hb
    refine Fw.hTake 0 rfl rfl (by kernel_rfl) (by kernel_rfl) (by kernel_rfl) (Fw.yV (Fw.val_move rfl)) rfl ?_
    refine Fw.hTake 1 rfl rfl (by kernel_rfl) (by kernel_rfl) (by kernel_rfl) (Fw.yV (Fw.val_move rfl)) rfl ?_
    refine Fw.hTake 3 rfl rfl (by kernel_rfl) (by kernel_rfl) (by kernel_rfl) (Fw.yV (Fw.val_fieldAddr fl43_0 rfl rfl)) rfl ?_
    refine Fw.hTake 4 rfl rfl (by kernel_rfl) (by kernel_rfl) (by kernel_rfl) (Fw.yV (Fw.hLd sc26 rfl (R_Hx.cell 0))) rfl ?_
    refine Fw.hTake 6 rfl rfl (by kernel_rfl) (by kernel_rfl) (by kernel_rfl) (Fw.yV (Fw.val_fieldAddr fl43_1 rfl rfl)) rfl ?_
    refine Fw.hTake 7 rfl rfl (by kernel_rfl) (by kernel_rfl) (by kernel_rfl) (Fw.yV (Fw.hLd sc3 rfl (R_Hx.cell 1))) rfl ?_
    refine Fw.hTake 8 rfl rfl (by kernel_rfl) (by kernel_rfl) (by kernel_rfl) (Fw.yV (Fw.val_fieldAddr fl43_2 rfl rfl)) rfl ?_
    refine Fw.hTake 9 rfl rfl (by kernel_rfl) (by kernel_rfl) (by kernel_rfl) (Fw.yV (Fw.hLd sc3 rfl (R_Hx.cell 2))) rfl ?_
    refine Fw.hAll1 2 (by kernel_rfl) ?_
    refine Fw.hOp 2 rfl ?_
    refine Fw.call cf16 rfl rfl (longs_any _ A ts c (h.low HB) (by omega)) ?_
    rintro e_ w6 ⟨AL, cL, rfl, HL, hb⟩
    refine ⟨_, rfl, ?_⟩
    replace Hn := Hn.low hb
    replace Hx := Hx.low hb
    replace HG := HG.low hb
    replace HS := HS.trans (hb.mono HS.size)
    replace HB := HB.trans (hb.mono HB.size)
    clear hb
    refine Fw.hNext HS ?_
    refine Fw.hAll1 5 (by kernel_rfl) ?_
    refine Fw.hOp 5 rfl ?_
    refine Fw.call cf17 rfl rfl (ints_any _ Aw way cw (hw.low HB) (by omega)) ?_
    rintro e_ w7 ⟨AI, cI, rfl, HI, hb⟩
    refine ⟨_, rfl, ?_⟩
    replace Hn := Hn.low hb
    replace Hx := Hx.low hb
    replace HG := HG.low hb
    replace HS := HS.trans (hb.mono HS.size)
    replace HL := own_below HL hb (Nat.le_refl _)
    replace HB := HB.trans (hb.mono HB.size)
    clear hb
    refine Fw.hNext HS ?_
    refine Fw.hAll1 10 (by kernel_rfl) ?_
    refine Fw.hOp 10 rfl ?_
    refine Fw.call cf21 rfl rfl (pathTime_any _ g N E HG (by omega) AL ts cL (Rd.of_own HL) AI way cI (by omega) (Rd.of_own HI) a b) ?_
    rintro e_ w8 ⟨rfl, hb⟩
    refine ⟨_, rfl, ?_⟩
    replace Hn := Hn.low hb
    replace Hx := Hx.low hb
    replace HG := HG.low hb
    replace HS := HS.trans (hb.mono HS.size)
    replace HL := own_below HL hb (Nat.le_refl _)
    replace HI := own_below HI hb (Nat.le_refl _)
    replace HB := HB.trans (hb.mono HB.size)
    clear hb
    refine Fw.hNext HS ?_
    refine Fw.hTake 11 rfl rfl (by kernel_rfl) (by kernel_rfl) (by kernel_rfl) (Fw.yV (Fw.val_move rfl)) rfl ?_
    refine Fw.hTake 12 rfl rfl (by kernel_rfl) (by kernel_rfl) (by kernel_rfl) (Fw.yV (Fw.val_extract rfl rfl)) rfl ?_
    refine Fw.hTake 13 rfl rfl (by kernel_rfl) (by kernel_rfl) (by kernel_rfl) (Fw.yV (Fw.val_extract rfl rfl)) rfl ?_
    refine Fw.hTake 14 rfl rfl (by kernel_rfl) (by kernel_rfl) (by kernel_rfl) (Fw.yV (Fw.val_assign rfl)) rfl ?_
    refine Fw.hTake 15 rfl rfl (by kernel_rfl) (by kernel_rfl) (by kernel_rfl) (Fw.yV (Fw.val_assign rfl)) rfl ?_
    refine Fw.hDone (by kernel_rfl) ?_
    refine hK5 _ _ (Fw.FC.sub (f' := [(9, _), (8, _), (5, _), (3, _), (1, _)]) (.cons rfl (.cons rfl (.cons rfl (.cons rfl (.cons rfl .nil))))) ?_)
    refine Fw.seq fun _ hK6 => ?_
    refine Fw.region ?_
    refine Fw.ldA ag24 rfl (Fw.rdBlk Hn) rfl rfl ?_
    refine Fw.s (Fw.val_move rfl) rfl ?_
    refine Fw.s (Fw.val_fieldAddr fl43_0 rfl rfl) rfl ?_
    refine Fw.ld sc26 rfl (Hx.cell 0) rfl ?_
    refine Fw.s (Fw.val_fieldAddr fl43_1 rfl rfl) rfl ?_
    refine Fw.ld sc3 rfl (Hx.cell 1) rfl ?_
    refine Fw.s (Fw.val_fieldAddr fl43_2 rfl rfl) rfl ?_
    refine Fw.ld sc3 rfl (Hx.cell 2) rfl ?_
    refine Fw.call cf22 rfl rfl (check_any _ N E Ae ce (hE.low HB) (by omega) A ts c (h.low HB) Aw way cw (by omega) (hw.low HB) a b) ?_
    rintro e_ w9 ⟨rfl, hb⟩
    refine ⟨_, rfl, ?_⟩
    replace Hn := Hn.low hb
    replace Hx := Hx.low hb
    replace HG := HG.low hb
    replace HL := own_below HL hb (Nat.le_refl _)
    replace HI := own_below HI hb (Nat.le_refl _)
    replace HB := HB.trans (hb.mono HB.size)
    clear hb
    refine Fw.s (Fw.val_move rfl) rfl ?_
    refine Fw.s (Fw.val_extract rfl rfl) rfl ?_
    refine Fw.s (Fw.val_extract rfl rfl) rfl ?_
    refine Fw.s (Fw.val_assign rfl) rfl ?_
    refine Fw.s (Fw.val_assign rfl) rfl ?_
    refine Fw.nil ?_
    refine hK6 _ _ (Fw.FC.sub (f' := [(11, _), (10, _), (9, _), (8, _)]) (.cons rfl (.cons rfl (.cons rfl (.cons rfl .nil)))) ?_)
    refine Fw.seq fun _ hK7 => ?_
    refine Fw.region ?_
    refine Fw.s (Fw.val_move rfl) rfl ?_
    refine Fw.s (Fw.val_move rfl) rfl ?_
    refine Fw.s (Fw.Val.T (Fw.val_bin rfl rfl Fw.b_eql) (by rfl)) rfl ?_
    refine Fw.s (Fw.val_move rfl) rfl ?_
    refine Fw.gT (d := 57) rfl rfl ?_
    refine Fw.s (Fw.val_move rfl) rfl ?_
    refine Fw.gT (d := 57) rfl rfl ?_
    refine Fw.s (Fw.val_move rfl) rfl ?_
    refine Fw.gT (d := 57) rfl rfl ?_
    refine Fw.s (Fw.Val.T (Fw.val_bin rfl rfl Fw.b_eql) (by rfl)) rfl ?_
    refine Fw.s (Fw.val_pickT rfl rfl) rfl ?_
    refine Fw.s (Fw.val_assign rfl) rfl ?_
    refine Fw.nil ?_
    refine hK7 _ _ (Fw.FC.sub (f' := [(6, _)]) (.cons rfl .nil) ?_)
    refine Fw.ret ?_
    refine Fw.ret_ [.tmp 6] [_] Try.results5 (.tmp rfl .nil) ?_
    exact ⟨rfl, HB⟩
  · rintro hf
    refine Fw.gT (d := 20) rfl rfl ?_
    refine Fw.s (Fw.val_not rfl) rfl ?_
    refine Fw.s (Fw.val_pickF rfl rfl) rfl ?_
    refine Fw.nil ?_
    refine hK4 _ _ (Fw.FC.sub (f' := [(26, _), (7, _), (5, _), (3, _), (1, _)]) (.cons rfl (.cons rfl (.cons rfl (.cons rfl (.cons rfl .nil))))) ?_)
    refine Fw.condT rfl ?_
    refine Fw.seq fun _ hK8 => ?_
    refine Fw.region ?_
    refine Fw.call cf12 rfl rfl (lawake_any _) ?_
    rintro e_ w10 ⟨rfl, hb⟩
    refine ⟨_, rfl, ?_⟩
    replace Hn := Hn.low hb
    replace Hx := Hx.low hb
    replace HG := HG.low hb
    replace HB := HB.trans (hb.mono HB.size)
    clear hb
    refine Fw.s (Fw.val_assign rfl) rfl ?_
    refine Fw.nil ?_
    refine hK8 _ _ ?_
    refine Fw.ret ?_
    refine Fw.X_ret ?_
    refine Fw.ret_ [.tmp 6] [_] Try.results5 (.tmp rfl .nil) ?_
    exact ⟨rfl, HB⟩

set_option maxRecDepth 100000 in
set_option maxHeartbeats 1000000 in
theorem lpath_no (w : World) (N : Int) (R : List Rg.Re) (Ae : Option Addr) (ce : Nat) (hR : Rd w Ae (R.flatMap Rg.Re.cells)) (hno : ¬ Rg.Right N R) (A : Option Addr) (ts : List Int) (c : Nat) (h : Rd w A (ts.map (.int .i64))) (a b : Int) : Calls Try.prog 4 #[.agg #[.int .i64 N, .slice Ae R.length ce], .slice A ts.length c, .agg #[.int .i64 a, .int .i64 b]] w fun e_ w' => e_ = .returned (.bool true) ∧ Below w.heap.size w w' := by
  refine Fw.calls Try.func4 rfl Try.ntmps4 rfl ?_
  have HB := Below.refl (w.heap.size) w
  refine Fw.seq fun _ hK1 => ?_
  refine Fw.region ?_
  refine Fw.box rfl rfl ?_
  intro w1 gn egn Hn hb
  have lgn : w.heap.size ≤ gn := by have := HB.size; omega
  replace HB := HB.trans (hb.mono HB.size)
  clear hb
  clear egn
  refine Fw.box rfl rfl ?_
  intro w2 gx egx Hx hb
  have n_gn_gx : gn < gx := by have := Hn.lt; omega
  have lgx : w.heap.size ≤ gx := by have := HB.size; omega
  replace Hn := Hn.low hb
  replace HB := HB.trans (hb.mono HB.size)
  clear hb
  clear egx
  refine Fw.s (Fw.val_assign rfl) rfl ?_
  refine Fw.nil ?_
  refine hK1 _ _ ?_
  refine Fw.seq fun _ hK2 => ?_
  refine Fw.region ?_
  refine Fw.ldA ag24 rfl (Fw.rdBlk Hn) rfl rfl ?_
  refine Fw.call cf11 rfl rfl (netNo_any _ N R Ae ce (hR.low HB) hno) ?_
  rintro e_ w3 ⟨rfl, hb⟩
  refine ⟨_, rfl, ?_⟩
  replace Hn := Hn.low hb
  replace Hx := Hx.low hb
  replace HB := HB.trans (hb.mono HB.size)
  clear hb
  refine Fw.s (Fw.val_assign rfl) rfl ?_
  refine Fw.nil ?_
  refine hK2 _ _ ?_
  refine Fw.seq fun _ hK3 => ?_
  refine Fw.seq fun _ hK4 => ?_
  refine Fw.region ?_
  refine Fw.call cf12 rfl rfl (lawake_any _) ?_
  rintro e_ w4 ⟨rfl, hb⟩
  refine ⟨_, rfl, ?_⟩
  replace Hn := Hn.low hb
  replace Hx := Hx.low hb
  replace HB := HB.trans (hb.mono HB.size)
  clear hb
  refine Fw.s (Fw.val_not rfl) rfl ?_
  refine Fw.s (Fw.val_move rfl) rfl ?_
  refine Fw.gT (d := 19) rfl rfl ?_
  refine Fw.s (Fw.val_move rfl) rfl ?_
  refine Fw.gT (d := 19) rfl rfl ?_
  refine Fw.s (Fw.val_bin rfl rfl (Fw.b_nilP Try.underlying27)) rfl ?_
  refine Fw.s (Fw.val_pickF rfl rfl) rfl ?_
  refine Fw.s (Fw.val_move rfl) rfl ?_
  refine Fw.gF (d := 23) rfl rfl rfl rfl ?_
  refine Fw.gF (d := 23) rfl rfl rfl rfl ?_
  refine Fw.gF (d := 23) rfl rfl rfl rfl ?_
  refine Fw.s (Fw.val_pickT rfl rfl) rfl ?_
  refine Fw.nil ?_
  refine hK4 _ _ (Fw.FC.sub (f' := [(27, _), (7, _), (5, _), (3, _), (1, _)]) (.cons rfl (.cons rfl (.cons rfl (.cons rfl (.cons rfl .nil))))) ?_)
  refine Fw.condT rfl ?_
  refine Fw.seq fun _ hK5 => ?_
  refine Fw.region ?_
  refine Fw.call cf12 rfl rfl (lawake_any _) ?_
  rintro e_ w5 ⟨rfl, hb⟩
  refine ⟨_, rfl, ?_⟩
  replace Hn := Hn.low hb
  replace Hx := Hx.low hb
  replace HB := HB.trans (hb.mono HB.size)
  clear hb
  refine Fw.s (Fw.val_assign rfl) rfl ?_
  refine Fw.nil ?_
  refine hK5 _ _ ?_
  refine Fw.ret ?_
  refine Fw.X_ret ?_
  refine Fw.ret_ [.tmp 6] [_] Try.results4 (.tmp rfl .nil) ?_
  exact ⟨rfl, HB⟩

set_option maxRecDepth 100000 in
set_option maxHeartbeats 1000000 in
theorem lpath_out (w : World) (N : Nat) (E : List Rg.Ed) (Ae : Option Addr) (ce : Nat) (hE : Rd w Ae (E.flatMap Rg.Ed.cells)) (hn : Rg.Net N E) (A : Option Addr) (ts : List Int) (c : Nat) (h : Rd w A (ts.map (.int .i64)))  (a b : Int) (hab : ¬ ((0 ≤ a ∧ a < (N : Int)) ∧ (0 ≤ b ∧ b < (N : Int)))) : Calls Try.prog 4 #[.agg #[.int .i64 (N : Int), .slice Ae E.length ce], .slice A ts.length c, .agg #[.int .i64 a, .int .i64 b]] w fun e_ w' => e_ = .returned (.bool true) ∧ Below w.heap.size w w' := by
  have hn1 := hn.n
  have hn2 := hn.e
  refine Fw.calls Try.func4 rfl Try.ntmps4 rfl ?_
  have HB := Below.refl (w.heap.size) w
  refine Fw.seq fun _ hK1 => ?_
  refine Fw.region ?_
  refine Fw.box rfl rfl ?_
  intro w1 gn egn Hn hb
  have lgn : w.heap.size ≤ gn := by have := HB.size; omega
  replace HB := HB.trans (hb.mono HB.size)
  clear hb
  clear egn
  refine Fw.box rfl rfl ?_
  intro w2 gx egx Hx hb
  have n_gn_gx : gn < gx := by have := Hn.lt; omega
  have lgx : w.heap.size ≤ gx := by have := HB.size; omega
  replace Hn := Hn.low hb
  replace HB := HB.trans (hb.mono HB.size)
  clear hb
  clear egx
  refine Fw.s (Fw.val_assign rfl) rfl ?_
  refine Fw.nil ?_
  refine hK1 _ _ ?_
  refine Fw.seq fun _ hK2 => ?_
  refine Fw.region ?_
  refine Fw.ldA ag24 rfl (Fw.rdBlk Hn) rfl rfl ?_
  refine Fw.call cf11 rfl rfl (net_any _ N E Ae ce (hE.low HB) hn) ?_
  rintro e_ w3 ⟨g, rfl, HG, hb⟩
  refine ⟨_, rfl, ?_⟩
  replace Hn := Hn.low hb
  replace Hx := Hx.low hb
  replace HB := HB.trans (hb.mono HB.size)
  clear hb
  refine Fw.s (Fw.val_assign rfl) rfl ?_
  refine Fw.nil ?_
  refine hK2 _ _ ?_
  refine Fw.seq fun _ hK3 => ?_
  refine Fw.seq fun _ hK4 => ?_
  refine Fw.region ?_
  refine Fw.call cf12 rfl rfl (lawake_any _) ?_
  rintro e_ w4 ⟨rfl, hb⟩
  refine ⟨_, rfl, ?_⟩
  replace Hn := Hn.low hb
  replace Hx := Hx.low hb
  replace HG := HG.low hb
  replace HB := HB.trans (hb.mono HB.size)
  clear hb
  refine Fw.s (Fw.val_not rfl) rfl ?_
  refine Fw.s (Fw.val_move rfl) rfl ?_
  refine Fw.gT (d := 19) rfl rfl ?_
  refine Fw.s (Fw.val_move rfl) rfl ?_
  refine Fw.gT (d := 19) rfl rfl ?_
  refine Fw.s (Fw.val_bin rfl rfl (Fw.b_nilP Try.underlying27)) rfl ?_
  refine Fw.s (Fw.val_pickF rfl rfl) rfl ?_
  refine Fw.s (Fw.val_move rfl) rfl ?_
  refine Fw.gT (d := 23) rfl rfl ?_
  refine Fw.s (Fw.val_move rfl) rfl ?_
  refine Fw.gT (d := 23) rfl rfl ?_
  refine Fw.call cf13 rfl rfl (lfew_any _ A ts.length c none 0 0) ?_
  rintro e_ _ ⟨rfl, rfl⟩
  refine ⟨_, rfl, ?_⟩
  refine Fw.b2 ?_ ?_
  · rintro hf
    refine Fw.gT (d := 23) rfl rfl ?_
    refine Fw.s (Fw.val_not rfl) rfl ?_
    refine Fw.s (Fw.val_pickF rfl rfl) rfl ?_
    refine Fw.nil ?_
    refine hK4 _ _ (Fw.FC.sub (f' := [(27, _), (7, _), (5, _), (3, _), (1, _)]) (.cons rfl (.cons rfl (.cons rfl (.cons rfl (.cons rfl .nil))))) ?_)
    refine Fw.condF rfl ?_
    refine Fw.skip ?_
    refine hK3 _ _ ?_
    refine Fw.seq fun _ hK5 => ?_
    have hf := of_decide_eq_true hf
    refine Fw.regionH (by kernel_rfl) ?_
    have R_Hn := Hn
    have R_Hx := Hx
    have R_HB := HB
    intro w5 hb
    have HS := hb
    replace Hn := Hn.low hb
    replace Hx := Hx.low hb
    replace HG := HG.low hb
    replace HB := HB.trans (hb.mono HB.size)
    clear hb
    refine Fw.hTake 0 rfl rfl (by kernel_rfl) (by kernel_rfl) (by kernel_rfl) (Fw.yV (Fw.val_move rfl)) rfl ?_
    refine Fw.hTake 1 rfl rfl (by kernel_rfl) (by kernel_rfl) (by kernel_rfl) (Fw.yV (Fw.val_move rfl)) rfl ?_
    refine Fw.hTake 3 rfl rfl (by kernel_rfl) (by kernel_rfl) (by kernel_rfl) (Fw.yV (Fw.val_indexP (m := 0) Try.underlying37 sz3 rfl rfl rfl (by decide) rfl)) rfl ?_
    refine Fw.hTake 4 rfl rfl (by kernel_rfl) (by kernel_rfl) (by kernel_rfl) (Fw.yV (Fw.hLd sc3 rfl (R_Hx.cell 0))) rfl ?_
    refine Fw.hTake 5 rfl rfl (by kernel_rfl) (by kernel_rfl) (by kernel_rfl) (Fw.yV (Fw.val_indexP (m := 1) Try.underlying37 sz3 rfl rfl rfl (by decide) rfl)) rfl ?_
    refine Fw.hTake 6 rfl rfl (by kernel_rfl) (by kernel_rfl) (by kernel_rfl) (Fw.yV (Fw.hLd sc3 rfl (R_Hx.cell 1))) rfl ?_
    refine Fw.hAll1 2 (by kernel_rfl) ?_
    refine Fw.hOp 2 rfl ?_
    refine Fw.call cf16 rfl rfl (longs_any _ A ts c (h.low HB) (by omega)) ?_
    rintro e_ w6 ⟨AL, cL, rfl, HL, hb⟩
    refine ⟨_, rfl, ?_⟩
    replace Hn := Hn.low hb
    replace Hx := Hx.low hb
    replace HG := HG.low hb
    replace HS := HS.trans (hb.mono HS.size)
    replace HB := HB.trans (hb.mono HB.size)
    clear hb
    refine Fw.hNext HS ?_
    refine Fw.hAll1 7 (by kernel_rfl) ?_
    refine Fw.hOp 7 rfl ?_
    refine Fw.call cf19 rfl rfl (pathNo_any _ g N E HG _ a b hab) ?_
    rintro e_ w7 ⟨rfl, hb⟩
    refine ⟨_, rfl, ?_⟩
    replace Hn := Hn.low hb
    replace Hx := Hx.low hb
    replace HG := HG.low hb
    replace HS := HS.trans (hb.mono HS.size)
    replace HL := own_below HL hb (Nat.le_refl _)
    replace HB := HB.trans (hb.mono HB.size)
    clear hb
    refine Fw.hNext HS ?_
    refine Fw.hTake 8 rfl rfl (by kernel_rfl) (by kernel_rfl) (by kernel_rfl) (Fw.yV (Fw.val_move rfl)) rfl ?_
    refine Fw.hTake 9 rfl rfl (by kernel_rfl) (by kernel_rfl) (by kernel_rfl) (Fw.yV (Fw.val_extract rfl rfl)) rfl ?_
    refine Fw.hTake 10 rfl rfl (by kernel_rfl) (by kernel_rfl) (by kernel_rfl) (Fw.yV (Fw.val_extract rfl rfl)) rfl ?_
    refine Fw.hTake 11 rfl rfl (by kernel_rfl) (by kernel_rfl) (by kernel_rfl) (Fw.yV (Fw.val_extract rfl rfl)) rfl ?_
    refine Fw.hTake 12 rfl rfl (by kernel_rfl) (by kernel_rfl) (by kernel_rfl) (Fw.yV (Fw.val_assign rfl)) rfl ?_
    refine Fw.hTake 13 rfl rfl (by kernel_rfl) (by kernel_rfl) (by kernel_rfl) (Fw.yV (Fw.val_assign rfl)) rfl ?_
    refine Fw.hTake 14 rfl rfl (by kernel_rfl) (by kernel_rfl) (by kernel_rfl) (Fw.yV (Fw.val_assign rfl)) rfl ?_
    refine Fw.hDone (by kernel_rfl) ?_
    refine hK5 _ _ (Fw.FC.sub (f' := [(10, _), (9, _), (8, _), (5, _), (3, _), (1, _)]) (.cons rfl (.cons rfl (.cons rfl (.cons rfl (.cons rfl (.cons rfl .nil)))))) ?_)
    refine Fw.seq fun _ hK6 => ?_
    refine Fw.region ?_
    refine Fw.ldA ag24 rfl (Fw.rdBlk Hn) rfl rfl ?_
    refine Fw.s (Fw.val_move rfl) rfl ?_
    refine Fw.s (Fw.val_indexP (m := 0) Try.underlying37 sz3 rfl rfl rfl (by decide) rfl) rfl ?_
    refine Fw.ld sc3 rfl (Hx.cell 0) rfl ?_
    refine Fw.s (Fw.val_indexP (m := 1) Try.underlying37 sz3 rfl rfl rfl (by decide) rfl) rfl ?_
    refine Fw.ld sc3 rfl (Hx.cell 1) rfl ?_
    refine Fw.call cf20 rfl rfl (wayNo_any _ N E Ae ce _ a b hab) ?_
    rintro e_ w8 ⟨rfl, hb⟩
    refine ⟨_, rfl, ?_⟩
    replace Hn := Hn.low hb
    replace Hx := Hx.low hb
    replace HG := HG.low hb
    replace HL := own_below HL hb (Nat.le_refl _)
    replace HB := HB.trans (hb.mono HB.size)
    clear hb
    refine Fw.s (Fw.val_move rfl) rfl ?_
    refine Fw.s (Fw.val_extract rfl rfl) rfl ?_
    refine Fw.s (Fw.val_extract rfl rfl) rfl ?_
    refine Fw.s (Fw.val_extract rfl rfl) rfl ?_
    refine Fw.s (Fw.val_assign rfl) rfl ?_
    refine Fw.s (Fw.val_assign rfl) rfl ?_
    refine Fw.s (Fw.val_assign rfl) rfl ?_
    refine Fw.nil ?_
    refine hK6 _ _ (Fw.FC.sub (f' := [(13, _), (12, _), (11, _), (10, _), (9, _), (8, _)]) (.cons rfl (.cons rfl (.cons rfl (.cons rfl (.cons rfl (.cons rfl .nil)))))) ?_)
    refine Fw.seq fun _ hK7 => ?_
    refine Fw.seq fun _ hK8 => ?_
    refine Fw.region ?_
    refine Fw.s (Fw.val_move rfl) rfl ?_
    refine Fw.s (Fw.val_move rfl) rfl ?_
    refine Fw.s (Fw.Val.F (Fw.val_bin rfl rfl Fw.b_neq) (by decide)) rfl ?_
    refine Fw.s (Fw.val_move rfl) rfl ?_
    refine Fw.gT (d := 55) rfl rfl ?_
    refine Fw.s (Fw.val_move rfl) rfl ?_
    refine Fw.gT (d := 55) rfl rfl ?_
    refine Fw.s (Fw.val_move rfl) rfl ?_
    refine Fw.gT (d := 55) rfl rfl ?_
    refine Fw.s (Fw.Val.F (Fw.val_bin rfl rfl (Fw.b_neqB Try.underlying4)) (by decide)) rfl ?_
    refine Fw.s (Fw.val_pickF rfl rfl) rfl ?_
    refine Fw.s (Fw.val_move rfl) rfl ?_
    refine Fw.gT (d := 60) rfl rfl ?_
    refine Fw.s (Fw.val_move rfl) rfl ?_
    refine Fw.gT (d := 60) rfl rfl ?_
    refine Fw.s (Fw.val_len Try.underlying26 rfl) rfl ?_
    refine Fw.gT (d := 60) rfl rfl ?_
    refine Fw.s (Fw.val_move rfl) rfl ?_
    refine Fw.gT (d := 60) rfl rfl ?_
    refine Fw.s (Fw.val_len Try.underlying26 rfl) rfl ?_
    refine Fw.gT (d := 60) rfl rfl ?_
    refine Fw.s (Fw.Val.F (Fw.val_bin rfl rfl Fw.b_neq) (by decide)) rfl ?_
    refine Fw.s (Fw.val_pickF rfl rfl) rfl ?_
    refine Fw.nil ?_
    refine hK8 _ _ (Fw.FC.sub (f' := [(66, _), (11, _), (8, _)]) (.cons rfl (.cons rfl (.cons rfl .nil))) ?_)
    refine Fw.condF rfl ?_
    refine Fw.skip ?_
    refine hK7 _ _ ?_
    refine Fw.seq fun _ hK9 => ?_
    refine Fw.seq fun _ hK10 => ?_
    refine Fw.region ?_
    refine Fw.s (Fw.val_move rfl) rfl ?_
    refine Fw.s (Fw.val_len Try.underlying26 rfl) rfl ?_
    refine Fw.s (Fw.val_move rfl) rfl ?_
    refine Fw.nil ?_
    refine hK10 _ _ ?_
    refine Fw.block ?_
    refine Fw.loop (fun m_ f_ W_ => m_ = 0 ∧ Below (w.heap.size) w W_ ∧ f_ = [(69, .int .i64 0), (68, .int .i64 0), (11, .slice none 0 0), (8, .slice none 0 0)]) ⟨_, _, ⟨rfl, HB, rfl⟩, (.cons rfl (.cons rfl (.cons rfl (.cons rfl .nil))))⟩ ?_
    clear HB
    rintro m11_ _ w9 ⟨hm11_, HB, rfl⟩
    refine Fw.seq fun _ hK12 => ?_
    refine Fw.region ?_
    refine Fw.s (Fw.Val.F (Fw.val_bin rfl rfl Fw.b_lss) (by decide)) rfl ?_
    refine Fw.nil ?_
    refine hK12 _ _ ?_
    refine Fw.seq fun _ hK13 => ?_
    refine Fw.condF rfl ?_
    refine Fw.exit ?_
    refine Fw.X_exit ?_
    refine Fw.X_exit ?_
    refine Fw.X_block ?_
    refine hK9 _ _ ?_
    refine Fw.seq fun _ hK14 => ?_
    refine Fw.region ?_
    refine Fw.s (Fw.val_assign rfl) rfl ?_
    refine Fw.nil ?_
    refine hK14 _ _ ?_
    refine Fw.ret ?_
    refine Fw.ret_ [.tmp 6] [_] Try.results4 (.tmp rfl .nil) ?_
    exact ⟨rfl, HB⟩
  · rintro hf
    refine Fw.gT (d := 23) rfl rfl ?_
    refine Fw.s (Fw.val_not rfl) rfl ?_
    refine Fw.s (Fw.val_pickF rfl rfl) rfl ?_
    refine Fw.nil ?_
    refine hK4 _ _ (Fw.FC.sub (f' := [(27, _), (7, _), (5, _), (3, _), (1, _)]) (.cons rfl (.cons rfl (.cons rfl (.cons rfl (.cons rfl .nil))))) ?_)
    refine Fw.condT rfl ?_
    refine Fw.seq fun _ hK15 => ?_
    refine Fw.region ?_
    refine Fw.call cf12 rfl rfl (lawake_any _) ?_
    rintro e_ w10 ⟨rfl, hb⟩
    refine ⟨_, rfl, ?_⟩
    replace Hn := Hn.low hb
    replace Hx := Hx.low hb
    replace HG := HG.low hb
    replace HB := HB.trans (hb.mono HB.size)
    clear hb
    refine Fw.s (Fw.val_assign rfl) rfl ?_
    refine Fw.nil ?_
    refine hK15 _ _ ?_
    refine Fw.ret ?_
    refine Fw.X_ret ?_
    refine Fw.ret_ [.tmp 6] [_] Try.results4 (.tmp rfl .nil) ?_
    exact ⟨rfl, HB⟩

set_option maxRecDepth 100000 in
set_option maxHeartbeats 1000000 in
theorem lpath_in (w : World) (N : Nat) (E : List Rg.Ed) (Ae : Option Addr) (ce : Nat) (hE : Rd w Ae (E.flatMap Rg.Ed.cells)) (hn : Rg.Net N E) (A : Option Addr) (ts : List Int) (c : Nat) (h : Rd w A (ts.map (.int .i64))) (a b : Nat) (ha : a < N) (hb_ : b < N) : Calls Try.prog 4 #[.agg #[.int .i64 (N : Int), .slice Ae E.length ce], .slice A ts.length c, .agg #[.int .i64 (a : Int), .int .i64 (b : Int)]] w fun e_ w' => e_ = .returned (.bool true) ∧ Below w.heap.size w w' := by
  have hn1 := hn.n
  have hn2 := hn.e
  obtain ⟨D, hD⟩ := Rg.dist_ex ts hn.ok (by omega) hb_
  refine Fw.calls Try.func4 rfl Try.ntmps4 rfl ?_
  have HB := Below.refl (w.heap.size) w
  refine Fw.seq fun _ hK1 => ?_
  refine Fw.region ?_
  refine Fw.box rfl rfl ?_
  intro w1 gn egn Hn hb
  have lgn : w.heap.size ≤ gn := by have := HB.size; omega
  replace HB := HB.trans (hb.mono HB.size)
  clear hb
  clear egn
  refine Fw.box rfl rfl ?_
  intro w2 gx egx Hx hb
  have n_gn_gx : gn < gx := by have := Hn.lt; omega
  have lgx : w.heap.size ≤ gx := by have := HB.size; omega
  replace Hn := Hn.low hb
  replace HB := HB.trans (hb.mono HB.size)
  clear hb
  clear egx
  refine Fw.s (Fw.val_assign rfl) rfl ?_
  refine Fw.nil ?_
  refine hK1 _ _ ?_
  refine Fw.seq fun _ hK2 => ?_
  refine Fw.region ?_
  refine Fw.ldA ag24 rfl (Fw.rdBlk Hn) rfl rfl ?_
  refine Fw.call cf11 rfl rfl (net_any _ N E Ae ce (hE.low HB) hn) ?_
  rintro e_ w3 ⟨g, rfl, HG, hb⟩
  refine ⟨_, rfl, ?_⟩
  replace Hn := Hn.low hb
  replace Hx := Hx.low hb
  replace HB := HB.trans (hb.mono HB.size)
  clear hb
  refine Fw.s (Fw.val_assign rfl) rfl ?_
  refine Fw.nil ?_
  refine hK2 _ _ ?_
  refine Fw.seq fun _ hK3 => ?_
  refine Fw.seq fun _ hK4 => ?_
  refine Fw.region ?_
  refine Fw.call cf12 rfl rfl (lawake_any _) ?_
  rintro e_ w4 ⟨rfl, hb⟩
  refine ⟨_, rfl, ?_⟩
  replace Hn := Hn.low hb
  replace Hx := Hx.low hb
  replace HG := HG.low hb
  replace HB := HB.trans (hb.mono HB.size)
  clear hb
  refine Fw.s (Fw.val_not rfl) rfl ?_
  refine Fw.s (Fw.val_move rfl) rfl ?_
  refine Fw.gT (d := 19) rfl rfl ?_
  refine Fw.s (Fw.val_move rfl) rfl ?_
  refine Fw.gT (d := 19) rfl rfl ?_
  refine Fw.s (Fw.val_bin rfl rfl (Fw.b_nilP Try.underlying27)) rfl ?_
  refine Fw.s (Fw.val_pickF rfl rfl) rfl ?_
  refine Fw.s (Fw.val_move rfl) rfl ?_
  refine Fw.gT (d := 23) rfl rfl ?_
  refine Fw.s (Fw.val_move rfl) rfl ?_
  refine Fw.gT (d := 23) rfl rfl ?_
  refine Fw.call cf13 rfl rfl (lfew_any _ A ts.length c none 0 0) ?_
  rintro e_ _ ⟨rfl, rfl⟩
  refine ⟨_, rfl, ?_⟩
  refine Fw.b2 ?_ ?_
  · rintro hf
    refine Fw.gT (d := 23) rfl rfl ?_
    refine Fw.s (Fw.val_not rfl) rfl ?_
    refine Fw.s (Fw.val_pickF rfl rfl) rfl ?_
    refine Fw.nil ?_
    refine hK4 _ _ (Fw.FC.sub (f' := [(27, _), (7, _), (5, _), (3, _), (1, _)]) (.cons rfl (.cons rfl (.cons rfl (.cons rfl (.cons rfl .nil))))) ?_)
    refine Fw.condF rfl ?_
    refine Fw.skip ?_
    refine hK3 _ _ ?_
    refine Fw.seq fun _ hK5 => ?_
    have hf := of_decide_eq_true hf
    refine Fw.regionH (by kernel_rfl) ?_
    have R_Hn := Hn
    have R_Hx := Hx
    have R_HB := HB
    intro w5 hb
    have HS := hb
    replace Hn := Hn.low hb
    replace Hx := Hx.low hb
    replace HG := HG.low hb
    replace HB := HB.trans (hb.mono HB.size)
    clear hb
    refine Fw.hTake 0 rfl rfl (by kernel_rfl) (by kernel_rfl) (by kernel_rfl) (Fw.yV (Fw.val_move rfl)) rfl ?_
    refine Fw.hTake 1 rfl rfl (by kernel_rfl) (by kernel_rfl) (by kernel_rfl) (Fw.yV (Fw.val_move rfl)) rfl ?_
    refine Fw.hTake 3 rfl rfl (by kernel_rfl) (by kernel_rfl) (by kernel_rfl) (Fw.yV (Fw.val_indexP (m := 0) Try.underlying37 sz3 rfl rfl rfl (by decide) rfl)) rfl ?_
    refine Fw.hTake 4 rfl rfl (by kernel_rfl) (by kernel_rfl) (by kernel_rfl) (Fw.yV (Fw.hLd sc3 rfl (R_Hx.cell 0))) rfl ?_
    refine Fw.hTake 5 rfl rfl (by kernel_rfl) (by kernel_rfl) (by kernel_rfl) (Fw.yV (Fw.val_indexP (m := 1) Try.underlying37 sz3 rfl rfl rfl (by decide) rfl)) rfl ?_
    refine Fw.hTake 6 rfl rfl (by kernel_rfl) (by kernel_rfl) (by kernel_rfl) (Fw.yV (Fw.hLd sc3 rfl (R_Hx.cell 1))) rfl ?_
    refine Fw.hAll1 2 (by kernel_rfl) ?_
    refine Fw.hOp 2 rfl ?_
    refine Fw.call cf16 rfl rfl (longs_any _ A ts c (h.low HB) (by omega)) ?_
    rintro e_ w6 ⟨AL, cL, rfl, HL, hb⟩
    refine ⟨_, rfl, ?_⟩
    replace Hn := Hn.low hb
    replace Hx := Hx.low hb
    replace HG := HG.low hb
    replace HS := HS.trans (hb.mono HS.size)
    replace HB := HB.trans (hb.mono HB.size)
    clear hb
    refine Fw.hNext HS ?_
    refine Fw.hAll1 7 (by kernel_rfl) ?_
    refine Fw.hOp 7 rfl ?_
    refine Fw.call cf19 rfl rfl (path_any _ g N E HG hn.ok (by omega) (by omega) AL ts cL (Rd.of_own HL) a b ha hb_ D hD) ?_
    rintro e_ w7 ⟨AP, cP, l, rfl, HP, hl1, hl2, hb⟩
    refine ⟨_, rfl, ?_⟩
    replace Hn := Hn.low hb
    replace Hx := Hx.low hb
    replace HG := HG.low hb
    replace HS := HS.trans (hb.mono HS.size)
    replace HL := own_below HL hb (Nat.le_refl _)
    replace HB := HB.trans (hb.mono HB.size)
    clear hb
    refine Fw.hNext HS ?_
    refine Fw.hTake 8 rfl rfl (by kernel_rfl) (by kernel_rfl) (by kernel_rfl) (Fw.yV (Fw.val_move rfl)) rfl ?_
    refine Fw.hTake 9 rfl rfl (by kernel_rfl) (by kernel_rfl) (by kernel_rfl) (Fw.yV (Fw.val_extract rfl rfl)) rfl ?_
    refine Fw.hTake 10 rfl rfl (by kernel_rfl) (by kernel_rfl) (by kernel_rfl) (Fw.yV (Fw.val_extract rfl rfl)) rfl ?_
    refine Fw.hTake 11 rfl rfl (by kernel_rfl) (by kernel_rfl) (by kernel_rfl) (Fw.yV (Fw.val_extract rfl rfl)) rfl ?_
    refine Fw.hTake 12 rfl rfl (by kernel_rfl) (by kernel_rfl) (by kernel_rfl) (Fw.yV (Fw.val_assign rfl)) rfl ?_
    refine Fw.hTake 13 rfl rfl (by kernel_rfl) (by kernel_rfl) (by kernel_rfl) (Fw.yV (Fw.val_assign rfl)) rfl ?_
    refine Fw.hTake 14 rfl rfl (by kernel_rfl) (by kernel_rfl) (by kernel_rfl) (Fw.yV (Fw.val_assign rfl)) rfl ?_
    refine Fw.hDone (by kernel_rfl) ?_
    refine hK5 _ _ (Fw.FC.sub (f' := [(10, _), (9, _), (8, _), (5, _), (3, _), (1, _)]) (.cons rfl (.cons rfl (.cons rfl (.cons rfl (.cons rfl (.cons rfl .nil)))))) ?_)
    refine Fw.seq fun _ hK6 => ?_
    refine Fw.region ?_
    refine Fw.ldA ag24 rfl (Fw.rdBlk Hn) rfl rfl ?_
    refine Fw.s (Fw.val_move rfl) rfl ?_
    refine Fw.s (Fw.val_indexP (m := 0) Try.underlying37 sz3 rfl rfl rfl (by decide) rfl) rfl ?_
    refine Fw.ld sc3 rfl (Hx.cell 0) rfl ?_
    refine Fw.s (Fw.val_indexP (m := 1) Try.underlying37 sz3 rfl rfl rfl (by decide) rfl) rfl ?_
    refine Fw.ld sc3 rfl (Hx.cell 1) rfl ?_
    refine Fw.call cf20 rfl rfl (way_any _ N E Ae ce (hE.low HB) hn.ok (by omega) (by omega) A ts c (h.low HB) a b ha hb_ D hD) ?_
    rintro e_ w8 ⟨AW, cW, l2, rfl, HW, hl3, hl4, hb⟩
    refine ⟨_, rfl, ?_⟩
    replace Hn := Hn.low hb
    replace Hx := Hx.low hb
    replace HG := HG.low hb
    replace HL := own_below HL hb (Nat.le_refl _)
    replace HP := own_below HP hb (Nat.le_refl _)
    replace HB := HB.trans (hb.mono HB.size)
    clear hb
    obtain rfl : l = l2 := by
      by_cases hq : D a = Sp.INF
      · rw [hl1 hq, hl3 hq]
      · exact (hl2 hq).unique (hl4 hq)
    refine Fw.s (Fw.val_move rfl) rfl ?_
    refine Fw.s (Fw.val_extract rfl rfl) rfl ?_
    refine Fw.s (Fw.val_extract rfl rfl) rfl ?_
    refine Fw.s (Fw.val_extract rfl rfl) rfl ?_
    refine Fw.s (Fw.val_assign rfl) rfl ?_
    refine Fw.s (Fw.val_assign rfl) rfl ?_
    refine Fw.s (Fw.val_assign rfl) rfl ?_
    refine Fw.nil ?_
    refine hK6 _ _ (Fw.FC.sub (f' := [(13, _), (12, _), (11, _), (10, _), (9, _), (8, _)]) (.cons rfl (.cons rfl (.cons rfl (.cons rfl (.cons rfl (.cons rfl .nil)))))) ?_)
    refine Fw.seq fun _ hK7 => ?_
    refine Fw.seq fun _ hK8 => ?_
    refine Fw.region ?_
    refine Fw.s (Fw.val_move rfl) rfl ?_
    refine Fw.s (Fw.val_move rfl) rfl ?_
    refine Fw.s (Fw.Val.F (Fw.val_bin rfl rfl Fw.b_neq) (by exact fun h => h rfl)) rfl ?_
    refine Fw.s (Fw.val_move rfl) rfl ?_
    refine Fw.gT (d := 55) rfl rfl ?_
    refine Fw.s (Fw.val_move rfl) rfl ?_
    refine Fw.gT (d := 55) rfl rfl ?_
    refine Fw.s (Fw.val_move rfl) rfl ?_
    refine Fw.gT (d := 55) rfl rfl ?_
    refine Fw.s (Fw.Val.F (Fw.val_bin rfl rfl (Fw.b_neqB Try.underlying4)) (by exact fun h => h rfl)) rfl ?_
    refine Fw.s (Fw.val_pickF rfl rfl) rfl ?_
    refine Fw.s (Fw.val_move rfl) rfl ?_
    refine Fw.gT (d := 60) rfl rfl ?_
    refine Fw.s (Fw.val_move rfl) rfl ?_
    refine Fw.gT (d := 60) rfl rfl ?_
    refine Fw.s (Fw.val_len Try.underlying26 rfl) rfl ?_
    refine Fw.gT (d := 60) rfl rfl ?_
    refine Fw.s (Fw.val_move rfl) rfl ?_
    refine Fw.gT (d := 60) rfl rfl ?_
    refine Fw.s (Fw.val_len Try.underlying26 rfl) rfl ?_
    refine Fw.gT (d := 60) rfl rfl ?_
    refine Fw.s (Fw.Val.F (Fw.val_bin rfl rfl Fw.b_neq) (by exact fun h => h rfl)) rfl ?_
    refine Fw.s (Fw.val_pickF rfl rfl) rfl ?_
    refine Fw.nil ?_
    refine hK8 _ _ (Fw.FC.sub (f' := [(66, _), (11, _), (8, _)]) (.cons rfl (.cons rfl (.cons rfl .nil))) ?_)
    refine Fw.condF rfl ?_
    refine Fw.skip ?_
    refine hK7 _ _ ?_
    refine Fw.seq fun _ hK9 => ?_
    refine Fw.seq fun _ hK10 => ?_
    refine Fw.region ?_
    refine Fw.s (Fw.val_move rfl) rfl ?_
    refine Fw.s (Fw.val_len Try.underlying26 rfl) rfl ?_
    refine Fw.s (Fw.val_move rfl) rfl ?_
    refine Fw.nil ?_
    refine hK10 _ _ ?_
    refine Fw.block ?_
    have hlm := Nat.le_trans (own_cap HP).1 (own_cap HP).2
    unfold maxLen at hlm
    replace HP := Rd.of_own HP
    replace HW := Rd.of_own HW
    refine Fw.loop (fun m_ f_ W_ => ∃ (k : Nat), m_ = l.length - k ∧ k ≤ l.length ∧ Rd W_ AP (Rg.ints l) ∧ Rd W_ AW (Rg.ints l) ∧ Below (w.heap.size) w W_ ∧ f_ = [(69, .int .i64 k), (68, .int .i64 l.length), (11, .slice AW l.length cW), (8, .slice AP l.length cP)]) ⟨_, _, ⟨0, rfl, Nat.zero_le _, HP, HW, HB, rfl⟩, (.cons rfl (.cons rfl (.cons rfl (.cons rfl .nil))))⟩ ?_
    clear HP HW HB
    rintro m11_ _ w9 ⟨k, hm11_, hkn, HP, HW, HB, rfl⟩
    refine Fw.seq fun _ hK12 => ?_
    refine Fw.region ?_
    refine Fw.s2 (Fw.val_bin rfl rfl Fw.b_lss) rfl ?_ ?_
    · rintro hk1
      refine Fw.nil ?_
      refine hK12 _ _ ?_
      refine Fw.seq fun _ hK14 => ?_
      refine Fw.condT rfl ?_
      refine Fw.skip ?_
      refine hK14 _ _ ?_
      refine Fw.seq fun _ hK15 => ?_
      refine Fw.block ?_
      refine Fw.seq fun _ hK16 => ?_
      refine Fw.region ?_
      refine Fw.s (Fw.val_move rfl) rfl ?_
      refine Fw.s (Fw.val_assign rfl) rfl ?_
      refine Fw.nil ?_
      refine hK16 _ _ ?_
      refine Fw.seq fun _ hK17 => ?_
      have hkl : k < l.length := by omega
      obtain ⟨ad1, b1_, o1_, hA1, hadd1, HE1⟩ := Fw.rdAtM (show Rd _ _ (l.map fun (i : Nat) => Value.int .i64 (i : Int)) from HP) k hkl
      obtain ⟨ad2, b2_, o2_, hA2, hadd2, HE2⟩ := Fw.rdAtM (show Rd _ _ (l.map fun (i : Nat) => Value.int .i64 (i : Int)) from HW) k hkl
      refine Fw.regionQ (by kernel_rfl) (by kernel_rfl) ?_
      refine Fw.q (Fw.val_move rfl) rfl ?_
      refine Fw.q (Fw.val_move rfl) rfl ?_
      refine Fw.q (Fw.val_indexR Try.underlying26 sz3 rfl hA1 rfl rfl hkl hadd1) rfl ?_
      refine Fw.ldQ sc3 rfl (HE1) rfl ?_
      refine Fw.q (Fw.val_move rfl) rfl ?_
      refine Fw.q (Fw.val_move rfl) rfl ?_
      refine Fw.q (Fw.val_indexR Try.underlying26 sz3 rfl hA2 rfl rfl hkl hadd2) rfl ?_
      refine Fw.ldQ sc3 rfl (HE2) rfl ?_
      refine Fw.q (Fw.Val.F (Fw.val_bin rfl rfl Fw.b_neq) (by exact fun h => h rfl)) rfl ?_
      refine Fw.nilQ ?_
      intro w10 hb
      clear HE1
      clear HE2
      replace HP := HP.low hb
      replace HW := HW.low hb
      replace HB := HB.trans (hb.mono HB.size)
      clear hb
      refine hK17 _ _ (Fw.FC.sub (f' := [(80, _), (69, _), (68, _), (11, _), (8, _)]) (.cons rfl (.cons rfl (.cons rfl (.cons rfl (.cons rfl .nil))))) ?_)
      refine Fw.condF rfl ?_
      refine Fw.skip ?_
      refine Fw.X_blockN ?_
      refine hK15 _ _ ?_
      refine Fw.region ?_
      refine Fw.s (Fw.val_bin rfl rfl (Fw.b_add (Fw.i64_ok (by omega)))) rfl ?_
      refine Fw.s (Fw.val_move rfl) rfl ?_
      refine Fw.nil ?_
      refine Fw.roundEnd _ _ (by omega) ⟨k + 1, rfl, by omega, HP, HW, HB, rfl⟩ (.cons rfl (.cons rfl (.cons rfl (.cons rfl .nil))))
    · rintro hk1
      refine Fw.nil ?_
      refine hK12 _ _ ?_
      refine Fw.seq fun _ hK20 => ?_
      refine Fw.condF rfl ?_
      refine Fw.exit ?_
      refine Fw.X_exit ?_
      refine Fw.X_exit ?_
      refine Fw.X_block ?_
      refine hK9 _ _ ?_
      refine Fw.seq fun _ hK21 => ?_
      refine Fw.region ?_
      refine Fw.s (Fw.val_assign rfl) rfl ?_
      refine Fw.nil ?_
      refine hK21 _ _ ?_
      refine Fw.ret ?_
      refine Fw.ret_ [.tmp 6] [_] Try.results4 (.tmp rfl .nil) ?_
      exact ⟨rfl, HB⟩
  · rintro hf
    refine Fw.gT (d := 23) rfl rfl ?_
    refine Fw.s (Fw.val_not rfl) rfl ?_
    refine Fw.s (Fw.val_pickF rfl rfl) rfl ?_
    refine Fw.nil ?_
    refine hK4 _ _ (Fw.FC.sub (f' := [(27, _), (7, _), (5, _), (3, _), (1, _)]) (.cons rfl (.cons rfl (.cons rfl (.cons rfl (.cons rfl .nil))))) ?_)
    refine Fw.condT rfl ?_
    refine Fw.seq fun _ hK22 => ?_
    refine Fw.region ?_
    refine Fw.call cf12 rfl rfl (lawake_any _) ?_
    rintro e_ w11 ⟨rfl, hb⟩
    refine ⟨_, rfl, ?_⟩
    replace Hn := Hn.low hb
    replace Hx := Hx.low hb
    replace HG := HG.low hb
    replace HB := HB.trans (hb.mono HB.size)
    clear hb
    refine Fw.s (Fw.val_assign rfl) rfl ?_
    refine Fw.nil ?_
    refine hK22 _ _ ?_
    refine Fw.ret ?_
    refine Fw.X_ret ?_
    refine Fw.ret_ [.tmp 6] [_] Try.results4 (.tmp rfl .nil) ?_
    exact ⟨rfl, HB⟩

set_option maxRecDepth 100000 in
set_option maxHeartbeats 1000000 in
theorem lverify_no (w : World) (N : Int) (R : List Rg.Re) (Ae : Option Addr) (ce : Nat) (hR : Rd w Ae (R.flatMap Rg.Re.cells)) (hno : ¬ Rg.Right N R) (A : Option Addr) (ts : List Int) (c : Nat) (h : Rd w A (ts.map (.int .i64))) (An : Option Addr) (ends : List Int) (cn : Nat) (hen : Rd w An (ends.map (.int .i64))) (Ad : Option Addr) (dist : List Int) (cd : Nat) (hdi : Rd w Ad (dist.map (.int .i64))) : Calls Try.prog 6 #[.agg #[.int .i64 N, .slice Ae R.length ce], .slice A ts.length c, .agg #[.slice An ends.length cn, .slice Ad dist.length cd]] w fun e_ w' => e_ = .returned (.bool true) ∧ Below w.heap.size w w' := by
  refine Fw.calls Try.func6 rfl Try.ntmps6 rfl ?_
  have HB := Below.refl (w.heap.size) w
  refine Fw.seq fun _ hK1 => ?_
  refine Fw.region ?_
  refine Fw.box rfl rfl ?_
  intro w1 gn egn Hn hb
  have lgn : w.heap.size ≤ gn := by have := HB.size; omega
  replace HB := HB.trans (hb.mono HB.size)
  clear hb
  clear egn
  refine Fw.box rfl rfl ?_
  intro w2 gx egx Hx hb
  have n_gn_gx : gn < gx := by have := Hn.lt; omega
  have lgx : w.heap.size ≤ gx := by have := HB.size; omega
  replace Hn := Hn.low hb
  replace HB := HB.trans (hb.mono HB.size)
  clear hb
  clear egx
  refine Fw.s (Fw.val_assign rfl) rfl ?_
  refine Fw.nil ?_
  refine hK1 _ _ ?_
  refine Fw.seq fun _ hK2 => ?_
  refine Fw.region ?_
  refine Fw.ldA ag24 rfl (Fw.rdBlk Hn) rfl rfl ?_
  refine Fw.call cf11 rfl rfl (netNo_any _ N R Ae ce (hR.low HB) hno) ?_
  rintro e_ w3 ⟨rfl, hb⟩
  refine ⟨_, rfl, ?_⟩
  replace Hn := Hn.low hb
  replace Hx := Hx.low hb
  replace HB := HB.trans (hb.mono HB.size)
  clear hb
  refine Fw.s (Fw.val_assign rfl) rfl ?_
  refine Fw.nil ?_
  refine hK2 _ _ ?_
  refine Fw.seq fun _ hK3 => ?_
  refine Fw.seq fun _ hK4 => ?_
  refine Fw.region ?_
  refine Fw.call cf12 rfl rfl (lawake_any _) ?_
  rintro e_ w4 ⟨rfl, hb⟩
  refine ⟨_, rfl, ?_⟩
  replace Hn := Hn.low hb
  replace Hx := Hx.low hb
  replace HB := HB.trans (hb.mono HB.size)
  clear hb
  refine Fw.s (Fw.val_not rfl) rfl ?_
  refine Fw.s (Fw.val_move rfl) rfl ?_
  refine Fw.gT (d := 13) rfl rfl ?_
  refine Fw.s (Fw.val_move rfl) rfl ?_
  refine Fw.gT (d := 13) rfl rfl ?_
  refine Fw.s (Fw.val_bin rfl rfl (Fw.b_nilP Try.underlying27)) rfl ?_
  refine Fw.s (Fw.val_pickF rfl rfl) rfl ?_
  refine Fw.s (Fw.val_move rfl) rfl ?_
  refine Fw.gF (d := 17) rfl rfl rfl rfl ?_
  refine Fw.gF (d := 17) rfl rfl rfl rfl ?_
  refine Fw.gF (d := 17) rfl rfl rfl rfl ?_
  refine Fw.gF (d := 17) rfl rfl rfl rfl ?_
  refine Fw.gF (d := 17) rfl rfl rfl rfl ?_
  refine Fw.s (Fw.val_pickT rfl rfl) rfl ?_
  refine Fw.s (Fw.val_move rfl) rfl ?_
  refine Fw.gF (d := 24) rfl rfl rfl rfl ?_
  refine Fw.gF (d := 24) rfl rfl rfl rfl ?_
  refine Fw.gF (d := 24) rfl rfl rfl rfl ?_
  refine Fw.gF (d := 24) rfl rfl rfl rfl ?_
  refine Fw.s (Fw.val_pickT rfl rfl) rfl ?_
  refine Fw.nil ?_
  refine hK4 _ _ (Fw.FC.sub (f' := [(29, _), (7, _), (5, _), (3, _), (1, _)]) (.cons rfl (.cons rfl (.cons rfl (.cons rfl (.cons rfl .nil))))) ?_)
  refine Fw.condT rfl ?_
  refine Fw.seq fun _ hK5 => ?_
  refine Fw.region ?_
  refine Fw.call cf12 rfl rfl (lawake_any _) ?_
  rintro e_ w5 ⟨rfl, hb⟩
  refine ⟨_, rfl, ?_⟩
  replace Hn := Hn.low hb
  replace Hx := Hx.low hb
  replace HB := HB.trans (hb.mono HB.size)
  clear hb
  refine Fw.s (Fw.val_assign rfl) rfl ?_
  refine Fw.nil ?_
  refine hK5 _ _ ?_
  refine Fw.ret ?_
  refine Fw.X_ret ?_
  refine Fw.ret_ [.tmp 6] [_] Try.results6 (.tmp rfl .nil) ?_
  exact ⟨rfl, HB⟩

set_option maxRecDepth 100000 in
set_option maxHeartbeats 1000000 in
theorem lverify_yes (w : World) (N : Nat) (E : List Rg.Ed) (Ae : Option Addr) (ce : Nat) (hE : Rd w Ae (E.flatMap Rg.Ed.cells)) (hn : Rg.Net N E) (A : Option Addr) (ts : List Int) (c : Nat) (h : Rd w A (ts.map (.int .i64))) (An : Option Addr) (ends : List Int) (cn : Nat) (hen : Rd w An (ends.map (.int .i64))) (Ad : Option Addr) (dist : List Int) (cd : Nat) (hdi : Rd w Ad (dist.map (.int .i64)))  : Calls Try.prog 6 #[.agg #[.int .i64 (N : Int), .slice Ae E.length ce], .slice A ts.length c, .agg #[.slice An ends.length cn, .slice Ad dist.length cd]] w fun e_ w' => e_ = .returned (.bool true) ∧ Below w.heap.size w w' := by
  have hn1 := hn.n
  have hn2 := hn.e
  refine Fw.calls Try.func6 rfl Try.ntmps6 rfl ?_
  have HB := Below.refl (w.heap.size) w
  refine Fw.seq fun _ hK1 => ?_
  refine Fw.region ?_
  refine Fw.box rfl rfl ?_
  intro w1 gn egn Hn hb
  have lgn : w.heap.size ≤ gn := by have := HB.size; omega
  replace HB := HB.trans (hb.mono HB.size)
  clear hb
  clear egn
  refine Fw.box rfl rfl ?_
  intro w2 gx egx Hx hb
  have n_gn_gx : gn < gx := by have := Hn.lt; omega
  have lgx : w.heap.size ≤ gx := by have := HB.size; omega
  replace Hn := Hn.low hb
  replace HB := HB.trans (hb.mono HB.size)
  clear hb
  clear egx
  refine Fw.s (Fw.val_assign rfl) rfl ?_
  refine Fw.nil ?_
  refine hK1 _ _ ?_
  refine Fw.seq fun _ hK2 => ?_
  refine Fw.region ?_
  refine Fw.ldA ag24 rfl (Fw.rdBlk Hn) rfl rfl ?_
  refine Fw.call cf11 rfl rfl (net_any _ N E Ae ce (hE.low HB) hn) ?_
  rintro e_ w3 ⟨g, rfl, HG, hb⟩
  refine ⟨_, rfl, ?_⟩
  replace Hn := Hn.low hb
  replace Hx := Hx.low hb
  replace HB := HB.trans (hb.mono HB.size)
  clear hb
  refine Fw.s (Fw.val_assign rfl) rfl ?_
  refine Fw.nil ?_
  refine hK2 _ _ ?_
  refine Fw.seq fun _ hK3 => ?_
  refine Fw.seq fun _ hK4 => ?_
  refine Fw.region ?_
  refine Fw.call cf12 rfl rfl (lawake_any _) ?_
  rintro e_ w4 ⟨rfl, hb⟩
  refine ⟨_, rfl, ?_⟩
  replace Hn := Hn.low hb
  replace Hx := Hx.low hb
  replace HG := HG.low hb
  replace HB := HB.trans (hb.mono HB.size)
  clear hb
  refine Fw.s (Fw.val_not rfl) rfl ?_
  refine Fw.s (Fw.val_move rfl) rfl ?_
  refine Fw.gT (d := 13) rfl rfl ?_
  refine Fw.s (Fw.val_move rfl) rfl ?_
  refine Fw.gT (d := 13) rfl rfl ?_
  refine Fw.s (Fw.val_bin rfl rfl (Fw.b_nilP Try.underlying27)) rfl ?_
  refine Fw.s (Fw.val_pickF rfl rfl) rfl ?_
  refine Fw.s (Fw.val_move rfl) rfl ?_
  refine Fw.gT (d := 17) rfl rfl ?_
  refine Fw.s (Fw.val_move rfl) rfl ?_
  refine Fw.gT (d := 17) rfl rfl ?_
  refine Fw.s (Fw.val_fieldAddr fl50_0 rfl rfl) rfl ?_
  refine Fw.gT (d := 17) rfl rfl ?_
  refine Fw.ld sc26 rfl (Hx.cell 0) rfl ?_
  refine Fw.gT (d := 17) rfl rfl ?_
  refine Fw.call cf13 rfl rfl (lfew_any _ A ts.length c An ends.length cn) ?_
  rintro e_ _ ⟨rfl, rfl⟩
  refine ⟨_, rfl, ?_⟩
  refine Fw.b2 ?_ ?_
  · rintro hf
    refine Fw.gT (d := 17) rfl rfl ?_
    refine Fw.s (Fw.val_not rfl) rfl ?_
    refine Fw.s (Fw.val_pickF rfl rfl) rfl ?_
    refine Fw.s (Fw.val_move rfl) rfl ?_
    refine Fw.gT (d := 24) rfl rfl ?_
    refine Fw.s (Fw.val_fieldAddr fl50_1 rfl rfl) rfl ?_
    refine Fw.gT (d := 24) rfl rfl ?_
    refine Fw.ld sc25 rfl (Hx.cell 1) rfl ?_
    refine Fw.gT (d := 24) rfl rfl ?_
    refine Fw.s (Fw.val_len Try.underlying25 rfl) rfl ?_
    refine Fw.gT (d := 24) rfl rfl ?_
    refine Fw.s2 (Fw.val_bin rfl rfl Fw.b_gtr) rfl ?_ ?_
    · rintro hd
      refine Fw.s (Fw.val_pickF rfl rfl) rfl ?_
      refine Fw.nil ?_
      refine hK4 _ _ (Fw.FC.sub (f' := [(29, _), (7, _), (5, _), (3, _), (1, _)]) (.cons rfl (.cons rfl (.cons rfl (.cons rfl (.cons rfl .nil))))) ?_)
      refine Fw.condT rfl ?_
      refine Fw.seq fun _ hK6 => ?_
      refine Fw.region ?_
      refine Fw.call cf12 rfl rfl (lawake_any _) ?_
      rintro e_ w5 ⟨rfl, hb⟩
      refine ⟨_, rfl, ?_⟩
      replace Hn := Hn.low hb
      replace Hx := Hx.low hb
      replace HG := HG.low hb
      replace HB := HB.trans (hb.mono HB.size)
      clear hb
      refine Fw.s (Fw.val_assign rfl) rfl ?_
      refine Fw.nil ?_
      refine hK6 _ _ ?_
      refine Fw.ret ?_
      refine Fw.X_ret ?_
      refine Fw.ret_ [.tmp 6] [_] Try.results6 (.tmp rfl .nil) ?_
      exact ⟨rfl, HB⟩
    · rintro hd
      refine Fw.s (Fw.val_pickF rfl rfl) rfl ?_
      refine Fw.nil ?_
      refine hK4 _ _ (Fw.FC.sub (f' := [(29, _), (7, _), (5, _), (3, _), (1, _)]) (.cons rfl (.cons rfl (.cons rfl (.cons rfl (.cons rfl .nil))))) ?_)
      refine Fw.condF rfl ?_
      refine Fw.skip ?_
      refine hK3 _ _ ?_
      refine Fw.seq fun _ hK7 => ?_
      have hf := of_decide_eq_true hf
      refine Fw.region ?_
      refine Fw.ldA ag24 rfl (Fw.rdBlk Hn) rfl rfl ?_
      refine Fw.s (Fw.val_move rfl) rfl ?_
      refine Fw.s (Fw.val_fieldAddr fl50_0 rfl rfl) rfl ?_
      refine Fw.ld sc26 rfl (Hx.cell 0) rfl ?_
      refine Fw.call cf18 rfl rfl (refFrom_any _ N E Ae ce (hE.low HB) hn.ok (by omega) (by omega) A ts c (h.low HB) An ends cn (by omega) (hen.low HB)) ?_
      rintro e_ w6 ⟨AR, cR, rfl, HR, hb⟩
      refine ⟨_, rfl, ?_⟩
      replace Hn := Hn.low hb
      replace Hx := Hx.low hb
      replace HG := HG.low hb
      replace HB := HB.trans (hb.mono HB.size)
      clear hb
      have hrl : (Sp.rounds (Rg.arcT N E ts true) (Sp.init N ends) N).length = N := Rg.rounds_len (Rg.arcT_ok (N := N) ts true hn.ok) ends
      refine Fw.s (Fw.val_assign rfl) rfl ?_
      refine Fw.nil ?_
      refine hK7 _ _ (Fw.FC.sub (f' := [(8, _), (7, _), (5, _), (1, _)]) (.cons rfl (.cons rfl (.cons rfl (.cons rfl .nil)))) ?_)
      refine Fw.seq fun _ hK8 => ?_
      refine Fw.regionH (by kernel_rfl) ?_
      have R_Hn := Hn
      have R_Hx := Hx
      have R_HB := HB
      intro w7 hb
      have HS := hb
      replace Hn := Hn.low hb
      replace Hx := Hx.low hb
      replace HG := HG.low hb
      replace HR := own_below HR hb (Nat.le_refl _)
      replace HB := HB.trans (hb.mono HB.size)
      clear hb
      refine Fw.hTake 0 rfl rfl (by kernel_rfl) (by kernel_rfl) (by kernel_rfl) (Fw.yV (Fw.val_move rfl)) rfl ?_
      refine Fw.hTake 1 rfl rfl (by kernel_rfl) (by kernel_rfl) (by kernel_rfl) (Fw.yV (Fw.val_move rfl)) rfl ?_
      refine Fw.hTake 3 rfl rfl (by kernel_rfl) (by kernel_rfl) (by kernel_rfl) (Fw.yV (Fw.val_fieldAddr fl50_0 rfl rfl)) rfl ?_
      refine Fw.hTake 4 rfl rfl (by kernel_rfl) (by kernel_rfl) (by kernel_rfl) (Fw.yV (Fw.hLd sc26 rfl (R_Hx.cell 0))) rfl ?_
      refine Fw.hTake 6 rfl rfl (by kernel_rfl) (by kernel_rfl) (by kernel_rfl) (Fw.yV (Fw.val_fieldAddr fl50_1 rfl rfl)) rfl ?_
      refine Fw.hTake 7 rfl rfl (by kernel_rfl) (by kernel_rfl) (by kernel_rfl) (Fw.yV (Fw.hLd sc25 rfl (R_Hx.cell 1))) rfl ?_
      refine Fw.hTake 10 rfl rfl (by kernel_rfl) (by kernel_rfl) (by kernel_rfl) (Fw.yV (Fw.val_fieldAddr fl50_1 rfl rfl)) rfl ?_
      refine Fw.hTake 11 rfl rfl (by kernel_rfl) (by kernel_rfl) (by kernel_rfl) (Fw.yV (Fw.hLd sc25 rfl (R_Hx.cell 1))) rfl ?_
      refine Fw.hTake 12 rfl rfl (by kernel_rfl) (by kernel_rfl) (by kernel_rfl) (Fw.yV (Fw.val_move rfl)) rfl ?_
      refine Fw.hAll1 2 (by kernel_rfl) ?_
      refine Fw.hOp 2 rfl ?_
      refine Fw.call cf16 rfl rfl (longs_any _ A ts c (h.low HB) (by omega)) ?_
      rintro e_ w8 ⟨AL, cL, rfl, HL, hb⟩
      refine ⟨_, rfl, ?_⟩
      replace Hn := Hn.low hb
      replace Hx := Hx.low hb
      replace HG := HG.low hb
      replace HR := own_below HR hb (Nat.le_refl _)
      replace HS := HS.trans (hb.mono HS.size)
      replace HB := HB.trans (hb.mono HB.size)
      clear hb
      refine Fw.hNext HS ?_
      refine Fw.hAll1 5 (by kernel_rfl) ?_
      refine Fw.hOp 5 rfl ?_
      refine Fw.call cf17 rfl rfl (ints_any _ An ends cn (hen.low HB) (by omega)) ?_
      rintro e_ w9 ⟨AI, cI, rfl, HI, hb⟩
      refine ⟨_, rfl, ?_⟩
      replace Hn := Hn.low hb
      replace Hx := Hx.low hb
      replace HG := HG.low hb
      replace HR := own_below HR hb (Nat.le_refl _)
      replace HS := HS.trans (hb.mono HS.size)
      replace HL := own_below HL hb (Nat.le_refl _)
      replace HB := HB.trans (hb.mono HB.size)
      clear hb
      refine Fw.hNext HS ?_
      refine Fw.hAll1 8 (by kernel_rfl) ?_
      refine Fw.hOp 8 rfl ?_
      refine Fw.call cf16 rfl rfl (longs_any _ Ad dist cd (hdi.low HB) (by omega)) ?_
      rintro e_ w10 ⟨ALd, cLd, rfl, HLd, hb⟩
      refine ⟨_, rfl, ?_⟩
      replace Hn := Hn.low hb
      replace Hx := Hx.low hb
      replace HG := HG.low hb
      replace HR := own_below HR hb (Nat.le_refl _)
      replace HS := HS.trans (hb.mono HS.size)
      replace HL := own_below HL hb (Nat.le_refl _)
      replace HI := own_below HI hb (Nat.le_refl _)
      replace HB := HB.trans (hb.mono HB.size)
      clear hb
      refine Fw.hNext HS ?_
      refine Fw.hAll1 9 (by kernel_rfl) ?_
      refine Fw.hOp 9 rfl ?_
      refine Fw.call cf23 rfl rfl (verify2_any _ g N E HG (by omega) (by omega) hn.ok AL ts cL (Rd.of_own HL) AI ends cI (by omega) (Rd.of_own HI) ALd dist.length dist cLd rfl (Rd.of_own HLd) (by omega)) ?_
      rintro e_ w11 ⟨rfl, hb⟩
      refine ⟨_, rfl, ?_⟩
      replace Hn := Hn.low hb
      replace Hx := Hx.low hb
      replace HG := HG.low hb
      replace HR := own_below HR hb (Nat.le_refl _)
      replace HS := HS.trans (hb.mono HS.size)
      replace HL := own_below HL hb (Nat.le_refl _)
      replace HI := own_below HI hb (Nat.le_refl _)
      replace HLd := own_below HLd hb (Nat.le_refl _)
      replace HB := HB.trans (hb.mono HB.size)
      clear hb
      refine Fw.hNext HS ?_
      refine Fw.hAll1 13 (by kernel_rfl) ?_
      refine Fw.hOp 13 rfl ?_
      refine Fw.call cf14 rfl rfl (same2_any _ dist.length N Ad dist cd rfl (hdi.low HB) (by omega) AR _ cR hrl (Rd.of_own HR)) ?_
      rintro e_ w12 ⟨rfl, hb⟩
      refine ⟨_, rfl, ?_⟩
      replace Hn := Hn.low hb
      replace Hx := Hx.low hb
      replace HG := HG.low hb
      replace HR := own_below HR hb (Nat.le_refl _)
      replace HS := HS.trans (hb.mono HS.size)
      replace HL := own_below HL hb (Nat.le_refl _)
      replace HI := own_below HI hb (Nat.le_refl _)
      replace HLd := own_below HLd hb (Nat.le_refl _)
      replace HB := HB.trans (hb.mono HB.size)
      clear hb
      refine Fw.hNext HS ?_
      refine Fw.hTake 14 rfl rfl (by kernel_rfl) (by kernel_rfl) (by kernel_rfl) (Fw.yV (Fw.Val.T (Fw.val_bin rfl rfl (Fw.b_eqlB Try.underlying4)) (by rfl))) rfl ?_
      refine Fw.hTake 15 rfl rfl (by kernel_rfl) (by kernel_rfl) (by kernel_rfl) (Fw.yV (Fw.val_move rfl)) rfl ?_
      refine Fw.hTake 16 rfl rfl (by kernel_rfl) (by kernel_rfl) (by kernel_rfl) (Fw.yT (e := 51) rfl rfl (Fw.val_move rfl)) rfl ?_
      refine Fw.hTake 17 rfl rfl (by kernel_rfl) (by kernel_rfl) (by kernel_rfl) (Fw.yT (e := 51) rfl rfl (Fw.val_move rfl)) rfl ?_
      refine Fw.hTake 19 rfl rfl (by kernel_rfl) (by kernel_rfl) (by kernel_rfl) (Fw.yT (e := 51) rfl rfl (Fw.val_fieldAddr fl50_0 rfl rfl)) rfl ?_
      refine Fw.hTake 20 rfl rfl (by kernel_rfl) (by kernel_rfl) (by kernel_rfl) (Fw.yT (e := 51) rfl rfl (Fw.hLd sc26 rfl (R_Hx.cell 0))) rfl ?_
      refine Fw.hTake 22 rfl rfl (by kernel_rfl) (by kernel_rfl) (by kernel_rfl) (Fw.yT (e := 51) rfl rfl (Fw.val_move rfl)) rfl ?_
      refine Fw.hAll1 18 (by kernel_rfl) ?_
      refine Fw.hOp 18 rfl ?_
      refine Fw.gT (d := 51) rfl rfl ?_
      refine Fw.call cf16 rfl rfl (longs_any _ A ts c (h.low HB) (by omega)) ?_
      rintro e_ w13 ⟨AL3, cL3, rfl, HL3, hb⟩
      refine ⟨_, rfl, ?_⟩
      replace Hn := Hn.low hb
      replace Hx := Hx.low hb
      replace HG := HG.low hb
      replace HR := own_below HR hb (Nat.le_refl _)
      replace HS := HS.trans (hb.mono HS.size)
      replace HL := own_below HL hb (Nat.le_refl _)
      replace HI := own_below HI hb (Nat.le_refl _)
      replace HLd := own_below HLd hb (Nat.le_refl _)
      replace HB := HB.trans (hb.mono HB.size)
      clear hb
      refine Fw.hNext HS ?_
      refine Fw.hAll1 21 (by kernel_rfl) ?_
      refine Fw.hOp 21 rfl ?_
      refine Fw.gT (d := 51) rfl rfl ?_
      refine Fw.call cf17 rfl rfl (ints_any _ An ends cn (hen.low HB) (by omega)) ?_
      rintro e_ w14 ⟨AI3, cI3, rfl, HI3, hb⟩
      refine ⟨_, rfl, ?_⟩
      replace Hn := Hn.low hb
      replace Hx := Hx.low hb
      replace HG := HG.low hb
      replace HR := own_below HR hb (Nat.le_refl _)
      replace HS := HS.trans (hb.mono HS.size)
      replace HL := own_below HL hb (Nat.le_refl _)
      replace HI := own_below HI hb (Nat.le_refl _)
      replace HLd := own_below HLd hb (Nat.le_refl _)
      replace HL3 := own_below HL3 hb (Nat.le_refl _)
      replace HB := HB.trans (hb.mono HB.size)
      clear hb
      refine Fw.hNext HS ?_
      refine Fw.hAll1 23 (by kernel_rfl) ?_
      refine Fw.hOp 23 rfl ?_
      refine Fw.gT (d := 51) rfl rfl ?_
      refine Fw.call cf23 rfl rfl (verify2_any _ g N E HG (by omega) (by omega) hn.ok AL3 ts cL3 (Rd.of_own HL3) AI3 ends cI3 (by omega) (Rd.of_own HI3) AR N _ cR hrl (Rd.of_own HR) (by omega)) ?_
      rintro e_ w15 ⟨rfl, hb⟩
      refine ⟨_, rfl, ?_⟩
      replace Hn := Hn.low hb
      replace Hx := Hx.low hb
      replace HG := HG.low hb
      replace HR := own_below HR hb (Nat.le_refl _)
      replace HS := HS.trans (hb.mono HS.size)
      replace HL := own_below HL hb (Nat.le_refl _)
      replace HI := own_below HI hb (Nat.le_refl _)
      replace HLd := own_below HLd hb (Nat.le_refl _)
      replace HL3 := own_below HL3 hb (Nat.le_refl _)
      replace HI3 := own_below HI3 hb (Nat.le_refl _)
      replace HB := HB.trans (hb.mono HB.size)
      clear hb
      rw [decide_eq_true rfl]
      refine Fw.hNext HS ?_
      refine Fw.hTake 24 rfl rfl (by kernel_rfl) (by kernel_rfl) (by kernel_rfl) (Fw.yV (Fw.val_pickT rfl rfl)) rfl ?_
      refine Fw.hTake 25 rfl rfl (by kernel_rfl) (by kernel_rfl) (by kernel_rfl) (Fw.yV (Fw.val_assign rfl)) rfl ?_
      refine Fw.hDone (by kernel_rfl) ?_
      refine hK8 _ _ (Fw.FC.sub (f' := [(6, _)]) (.cons rfl .nil) ?_)
      refine Fw.ret ?_
      refine Fw.ret_ [.tmp 6] [_] Try.results6 (.tmp rfl .nil) ?_
      exact ⟨rfl, HB⟩
  · rintro hf
    refine Fw.gT (d := 17) rfl rfl ?_
    refine Fw.s (Fw.val_not rfl) rfl ?_
    refine Fw.s (Fw.val_pickF rfl rfl) rfl ?_
    refine Fw.s (Fw.val_move rfl) rfl ?_
    refine Fw.gF (d := 24) rfl rfl rfl rfl ?_
    refine Fw.gF (d := 24) rfl rfl rfl rfl ?_
    refine Fw.gF (d := 24) rfl rfl rfl rfl ?_
    refine Fw.gF (d := 24) rfl rfl rfl rfl ?_
    refine Fw.s (Fw.val_pickT rfl rfl) rfl ?_
    refine Fw.nil ?_
    refine hK4 _ _ (Fw.FC.sub (f' := [(29, _), (7, _), (5, _), (3, _), (1, _)]) (.cons rfl (.cons rfl (.cons rfl (.cons rfl (.cons rfl .nil))))) ?_)
    refine Fw.condT rfl ?_
    refine Fw.seq fun _ hK9 => ?_
    refine Fw.region ?_
    refine Fw.call cf12 rfl rfl (lawake_any _) ?_
    rintro e_ w16 ⟨rfl, hb⟩
    refine ⟨_, rfl, ?_⟩
    replace Hn := Hn.low hb
    replace Hx := Hx.low hb
    replace HG := HG.low hb
    replace HB := HB.trans (hb.mono HB.size)
    clear hb
    refine Fw.s (Fw.val_assign rfl) rfl ?_
    refine Fw.nil ?_
    refine hK9 _ _ ?_
    refine Fw.ret ?_
    refine Fw.X_ret ?_
    refine Fw.ret_ [.tmp 6] [_] Try.results6 (.tmp rfl .nil) ?_
    exact ⟨rfl, HB⟩

end Go.Proofs.Ytenljoccfjlncaa
