/- Layer 9: the law Monotonic. -/
import Derived.Test.YtenljoccfjlncaaRgO
namespace Go.Proofs.Ytenljoccfjlncaa
set_option linter.unusedSimpArgs false
set_option linter.unusedVariables false
open Go.RowKit

set_option maxRecDepth 100000 in
set_option maxHeartbeats 1000000 in
theorem lmono_no (w : World) (N : Int) (R : List Rg.Re) (Ae : Option Addr) (ce : Nat) (hR : Rd w Ae (R.flatMap Rg.Re.cells)) (hno : ¬ Rg.Right N R) (A : Option Addr) (ts : List Int) (c : Nat) (h : Rd w A (ts.map (.int .i64))) (e L : Int) (An : Option Addr) (ends : List Int) (cn : Nat) (hen : Rd w An (ends.map (.int .i64))) (m : Int) : Calls Try.prog 7 #[.agg #[.int .i64 N, .slice Ae R.length ce], .slice A ts.length c, .agg #[.int .i64 e, .int .i64 L, .slice An ends.length cn, .int .i64 m]] w fun e_ w' => e_ = .returned (.bool true) ∧ Below w.heap.size w w' := by
  refine Fw.calls Try.func7 rfl Try.ntmps7 rfl ?_
  have HB := Below.refl (w.heap.size) w
  refine Fw.seq fun _ hK1 => ?_
  refine Fw.region ?_
  refine Fw.box rfl rfl ?_
  intro w1 gn egn Hn hb
  have lgn : w.heap.size ≤ gn := by have := HB.size; omega
  replace HB := HB.trans (hb.mono HB.size)
  clear hb
  clear egn
  refine Fw.box rfl rfl ?_
  intro w2 gx egx Hx hb
  have n_gn_gx : gn < gx := by have := Hn.lt; omega
  have lgx : w.heap.size ≤ gx := by have := HB.size; omega
  replace Hn := Hn.low hb
  replace HB := HB.trans (hb.mono HB.size)
  clear hb
  clear egx
  refine Fw.s (Fw.val_assign rfl) rfl ?_
  refine Fw.nil ?_
  refine hK1 _ _ ?_
  refine Fw.seq fun _ hK2 => ?_
  refine Fw.region ?_
  refine Fw.ldA ag24 rfl (Fw.rdBlk Hn) rfl rfl ?_
  refine Fw.call cf11 rfl rfl (netNo_any _ N R Ae ce (hR.low HB) hno) ?_
  rintro e_ w3 ⟨rfl, hb⟩
  refine ⟨_, rfl, ?_⟩
  replace Hn := Hn.low hb
  replace Hx := Hx.low hb
  replace HB := HB.trans (hb.mono HB.size)
  clear hb
  refine Fw.s (Fw.val_assign rfl) rfl ?_
  refine Fw.nil ?_
  refine hK2 _ _ ?_
  refine Fw.seq fun _ hK3 => ?_
  refine Fw.seq fun _ hK4 => ?_
  refine Fw.region ?_
  refine Fw.call cf12 rfl rfl (lawake_any _) ?_
  rintro e_ w4 ⟨rfl, hb⟩
  refine ⟨_, rfl, ?_⟩
  replace Hn := Hn.low hb
  replace Hx := Hx.low hb
  replace HB := HB.trans (hb.mono HB.size)
  clear hb
  refine Fw.s (Fw.val_not rfl) rfl ?_
  refine Fw.s (Fw.val_move rfl) rfl ?_
  refine Fw.gT (d := 18) rfl rfl ?_
  refine Fw.s (Fw.val_move rfl) rfl ?_
  refine Fw.gT (d := 18) rfl rfl ?_
  refine Fw.s (Fw.val_bin rfl rfl (Fw.b_nilP Try.underlying27)) rfl ?_
  refine Fw.s (Fw.val_pickF rfl rfl) rfl ?_
  refine Fw.s (Fw.val_move rfl) rfl ?_
  refine Fw.gF (d := 22) rfl rfl rfl rfl ?_
  refine Fw.gF (d := 22) rfl rfl rfl rfl ?_
  refine Fw.gF (d := 22) rfl rfl rfl rfl ?_
  refine Fw.gF (d := 22) rfl rfl rfl rfl ?_
  refine Fw.gF (d := 22) rfl rfl rfl rfl ?_
  refine Fw.s (Fw.val_pickT rfl rfl) rfl ?_
  refine Fw.s (Fw.val_move rfl) rfl ?_
  refine Fw.gF (d := 29) rfl rfl rfl rfl ?_
  refine Fw.gF (d := 29) rfl rfl rfl rfl ?_
  refine Fw.gF (d := 29) rfl rfl rfl rfl ?_
  refine Fw.s (Fw.val_pickT rfl rfl) rfl ?_
  refine Fw.s (Fw.val_move rfl) rfl ?_
  refine Fw.gF (d := 34) rfl rfl rfl rfl ?_
  refine Fw.gF (d := 34) rfl rfl rfl rfl ?_
  refine Fw.gF (d := 34) rfl rfl rfl rfl ?_
  refine Fw.gF (d := 34) rfl rfl rfl rfl ?_
  refine Fw.gF (d := 34) rfl rfl rfl rfl ?_
  refine Fw.s (Fw.val_pickT rfl rfl) rfl ?_
  refine Fw.s (Fw.val_move rfl) rfl ?_
  refine Fw.gF (d := 41) rfl rfl rfl rfl ?_
  refine Fw.gF (d := 41) rfl rfl rfl rfl ?_
  refine Fw.gF (d := 41) rfl rfl rfl rfl ?_
  refine Fw.s (Fw.val_pickT rfl rfl) rfl ?_
  refine Fw.nil ?_
  refine hK4 _ _ (Fw.FC.sub (f' := [(45, _), (7, _), (5, _), (3, _), (1, _)]) (.cons rfl (.cons rfl (.cons rfl (.cons rfl (.cons rfl .nil))))) ?_)
  refine Fw.condT rfl ?_
  refine Fw.seq fun _ hK5 => ?_
  refine Fw.region ?_
  refine Fw.call cf12 rfl rfl (lawake_any _) ?_
  rintro e_ w5 ⟨rfl, hb⟩
  refine ⟨_, rfl, ?_⟩
  replace Hn := Hn.low hb
  replace Hx := Hx.low hb
  replace HB := HB.trans (hb.mono HB.size)
  clear hb
  refine Fw.s (Fw.val_assign rfl) rfl ?_
  refine Fw.nil ?_
  refine hK5 _ _ ?_
  refine Fw.ret ?_
  refine Fw.X_ret ?_
  refine Fw.ret_ [.tmp 6] [_] Try.results7 (.tmp rfl .nil) ?_
  exact ⟨rfl, HB⟩

set_option maxRecDepth 100000 in
set_option maxHeartbeats 4000000 in
theorem lmono_yes (w : World) (N : Nat) (E : List Rg.Ed) (Ae : Option Addr) (ce : Nat) (hE : Rd w Ae (E.flatMap Rg.Ed.cells)) (hn : Rg.Net N E) (A : Option Addr) (ts : List Int) (c : Nat) (h : Rd w A (ts.map (.int .i64))) (e L : Int) (An : Option Addr) (ends : List Int) (cn : Nat) (hen : Rd w An (ends.map (.int .i64))) (m : Int) : Calls Try.prog 7 #[.agg #[.int .i64 (N : Int), .slice Ae E.length ce], .slice A ts.length c, .agg #[.int .i64 e, .int .i64 L, .slice An ends.length cn, .int .i64 m]] w fun e_ w' => e_ = .returned (.bool true) ∧ Below w.heap.size w w' := by
  have hn1 := hn.n
  have hn2 := hn.e
  refine Fw.calls Try.func7 rfl Try.ntmps7 rfl ?_
  have HB := Below.refl (w.heap.size) w
  refine Fw.seq fun _ hK1 => ?_
  refine Fw.region ?_
  refine Fw.box rfl rfl ?_
  intro w1 gn egn Hn hb
  have lgn : w.heap.size ≤ gn := by have := HB.size; omega
  replace HB := HB.trans (hb.mono HB.size)
  clear hb
  clear egn
  refine Fw.box rfl rfl ?_
  intro w2 gx egx Hx hb
  have n_gn_gx : gn < gx := by have := Hn.lt; omega
  have lgx : w.heap.size ≤ gx := by have := HB.size; omega
  replace Hn := Hn.low hb
  replace HB := HB.trans (hb.mono HB.size)
  clear hb
  clear egx
  refine Fw.s (Fw.val_assign rfl) rfl ?_
  refine Fw.nil ?_
  refine hK1 _ _ ?_
  refine Fw.seq fun _ hK2 => ?_
  refine Fw.region ?_
  refine Fw.ldA ag24 rfl (Fw.rdBlk Hn) rfl rfl ?_
  refine Fw.call cf11 rfl rfl (net_any _ N E Ae ce (hE.low HB) hn) ?_
  rintro e_ w3 ⟨g, rfl, HG, hb⟩
  refine ⟨_, rfl, ?_⟩
  replace Hn := Hn.low hb
  replace Hx := Hx.low hb
  replace HB := HB.trans (hb.mono HB.size)
  clear hb
  have HGb := Below.refl w3.heap.size w3
  refine Fw.s (Fw.val_assign rfl) rfl ?_
  refine Fw.nil ?_
  refine hK2 _ _ ?_
  refine Fw.seq fun _ hK3 => ?_
  refine Fw.seq fun _ hK4 => ?_
  refine Fw.region ?_
  refine Fw.call cf12 rfl rfl (lawake_any _) ?_
  rintro e_ w4 ⟨rfl, hb⟩
  refine ⟨_, rfl, ?_⟩
  replace Hn := Hn.low hb
  replace Hx := Hx.low hb
  replace HGb := HGb.trans (hb.mono HGb.size)
  replace HB := HB.trans (hb.mono HB.size)
  clear hb
  refine Fw.s (Fw.val_not rfl) rfl ?_
  refine Fw.s (Fw.val_move rfl) rfl ?_
  refine Fw.gT (d := 18) rfl rfl ?_
  refine Fw.s (Fw.val_move rfl) rfl ?_
  refine Fw.gT (d := 18) rfl rfl ?_
  refine Fw.s (Fw.val_bin rfl rfl (Fw.b_nilP Try.underlying27)) rfl ?_
  refine Fw.s (Fw.val_pickF rfl rfl) rfl ?_
  refine Fw.s (Fw.val_move rfl) rfl ?_
  refine Fw.gT (d := 22) rfl rfl ?_
  refine Fw.s (Fw.val_move rfl) rfl ?_
  refine Fw.gT (d := 22) rfl rfl ?_
  refine Fw.s (Fw.val_fieldAddr fl54_2 rfl rfl) rfl ?_
  refine Fw.gT (d := 22) rfl rfl ?_
  refine Fw.ld sc26 rfl (Hx.cell 2) rfl ?_
  refine Fw.gT (d := 22) rfl rfl ?_
  refine Fw.call cf13 rfl rfl (lfew_any _ A ts.length c An ends.length cn) ?_
  rintro e_ _ ⟨rfl, rfl⟩
  refine ⟨_, rfl, ?_⟩
  refine Fw.b2 ?_ ?_
  · rintro hf
    refine Fw.gT (d := 22) rfl rfl ?_
    refine Fw.s (Fw.val_not rfl) rfl ?_
    refine Fw.s (Fw.val_pickF rfl rfl) rfl ?_
    refine Fw.s (Fw.val_move rfl) rfl ?_
    refine Fw.gT (d := 29) rfl rfl ?_
    refine Fw.s (Fw.val_fieldAddr fl54_0 rfl rfl) rfl ?_
    refine Fw.gT (d := 29) rfl rfl ?_
    refine Fw.ld sc3 rfl (Hx.cell 0) rfl ?_
    refine Fw.gT (d := 29) rfl rfl ?_
    refine Fw.s2 (Fw.val_bin rfl rfl Fw.b_lss) rfl ?_ ?_
    · rintro hm1
      refine Fw.s (Fw.val_pickF rfl rfl) rfl ?_
      refine Fw.s (Fw.val_move rfl) rfl ?_
      refine Fw.gF (d := 34) rfl rfl rfl rfl ?_
      refine Fw.gF (d := 34) rfl rfl rfl rfl ?_
      refine Fw.gF (d := 34) rfl rfl rfl rfl ?_
      refine Fw.gF (d := 34) rfl rfl rfl rfl ?_
      refine Fw.gF (d := 34) rfl rfl rfl rfl ?_
      refine Fw.s (Fw.val_pickT rfl rfl) rfl ?_
      refine Fw.s (Fw.val_move rfl) rfl ?_
      refine Fw.gF (d := 41) rfl rfl rfl rfl ?_
      refine Fw.gF (d := 41) rfl rfl rfl rfl ?_
      refine Fw.gF (d := 41) rfl rfl rfl rfl ?_
      refine Fw.s (Fw.val_pickT rfl rfl) rfl ?_
      refine Fw.nil ?_
      refine hK4 _ _ (Fw.FC.sub (f' := [(45, _), (7, _), (5, _), (3, _), (1, _)]) (.cons rfl (.cons rfl (.cons rfl (.cons rfl (.cons rfl .nil))))) ?_)
      refine Fw.condT rfl ?_
      refine Fw.seq fun _ hK6 => ?_
      refine Fw.region ?_
      refine Fw.call cf12 rfl rfl (lawake_any _) ?_
      rintro e_ w5 ⟨rfl, hb⟩
      refine ⟨_, rfl, ?_⟩
      replace Hn := Hn.low hb
      replace Hx := Hx.low hb
      replace HGb := HGb.trans (hb.mono HGb.size)
      replace HB := HB.trans (hb.mono HB.size)
      clear hb
      refine Fw.s (Fw.val_assign rfl) rfl ?_
      refine Fw.nil ?_
      refine hK6 _ _ ?_
      refine Fw.ret ?_
      refine Fw.X_ret ?_
      refine Fw.ret_ [.tmp 6] [_] Try.results7 (.tmp rfl .nil) ?_
      exact ⟨rfl, HB⟩
    · rintro hm1
      refine Fw.s (Fw.val_pickF rfl rfl) rfl ?_
      refine Fw.s (Fw.val_move rfl) rfl ?_
      refine Fw.gT (d := 34) rfl rfl ?_
      refine Fw.s (Fw.val_fieldAddr fl54_0 rfl rfl) rfl ?_
      refine Fw.gT (d := 34) rfl rfl ?_
      refine Fw.ld sc3 rfl (Hx.cell 0) rfl ?_
      refine Fw.gT (d := 34) rfl rfl ?_
      refine Fw.s (Fw.val_move rfl) rfl ?_
      refine Fw.gT (d := 34) rfl rfl ?_
      refine Fw.s (Fw.val_len Try.underlying25 rfl) rfl ?_
      refine Fw.gT (d := 34) rfl rfl ?_
      refine Fw.s2 (Fw.val_bin rfl rfl Fw.b_geq) rfl ?_ ?_
      · rintro hm2
        refine Fw.s (Fw.val_pickF rfl rfl) rfl ?_
        refine Fw.s (Fw.val_move rfl) rfl ?_
        refine Fw.gF (d := 41) rfl rfl rfl rfl ?_
        refine Fw.gF (d := 41) rfl rfl rfl rfl ?_
        refine Fw.gF (d := 41) rfl rfl rfl rfl ?_
        refine Fw.s (Fw.val_pickT rfl rfl) rfl ?_
        refine Fw.nil ?_
        refine hK4 _ _ (Fw.FC.sub (f' := [(45, _), (7, _), (5, _), (3, _), (1, _)]) (.cons rfl (.cons rfl (.cons rfl (.cons rfl (.cons rfl .nil))))) ?_)
        refine Fw.condT rfl ?_
        refine Fw.seq fun _ hK8 => ?_
        refine Fw.region ?_
        refine Fw.call cf12 rfl rfl (lawake_any _) ?_
        rintro e_ w6 ⟨rfl, hb⟩
        refine ⟨_, rfl, ?_⟩
        replace Hn := Hn.low hb
        replace Hx := Hx.low hb
        replace HGb := HGb.trans (hb.mono HGb.size)
        replace HB := HB.trans (hb.mono HB.size)
        clear hb
        refine Fw.s (Fw.val_assign rfl) rfl ?_
        refine Fw.nil ?_
        refine hK8 _ _ ?_
        refine Fw.ret ?_
        refine Fw.X_ret ?_
        refine Fw.ret_ [.tmp 6] [_] Try.results7 (.tmp rfl .nil) ?_
        exact ⟨rfl, HB⟩
      · rintro hm2
        refine Fw.s (Fw.val_pickF rfl rfl) rfl ?_
        refine Fw.s (Fw.val_move rfl) rfl ?_
        refine Fw.gT (d := 41) rfl rfl ?_
        refine Fw.s (Fw.val_fieldAddr fl54_1 rfl rfl) rfl ?_
        refine Fw.gT (d := 41) rfl rfl ?_
        refine Fw.ld sc2 rfl (Hx.cell 1) rfl ?_
        refine Fw.gT (d := 41) rfl rfl ?_
        refine Fw.s2 (Fw.val_bin rfl rfl Fw.b_lss) rfl ?_ ?_
        · rintro hm3
          refine Fw.s (Fw.val_pickF rfl rfl) rfl ?_
          refine Fw.nil ?_
          refine hK4 _ _ (Fw.FC.sub (f' := [(45, _), (7, _), (5, _), (3, _), (1, _)]) (.cons rfl (.cons rfl (.cons rfl (.cons rfl (.cons rfl .nil))))) ?_)
          refine Fw.condT rfl ?_
          refine Fw.seq fun _ hK10 => ?_
          refine Fw.region ?_
          refine Fw.call cf12 rfl rfl (lawake_any _) ?_
          rintro e_ w7 ⟨rfl, hb⟩
          refine ⟨_, rfl, ?_⟩
          replace Hn := Hn.low hb
          replace Hx := Hx.low hb
          replace HGb := HGb.trans (hb.mono HGb.size)
          replace HB := HB.trans (hb.mono HB.size)
          clear hb
          refine Fw.s (Fw.val_assign rfl) rfl ?_
          refine Fw.nil ?_
          refine hK10 _ _ ?_
          refine Fw.ret ?_
          refine Fw.X_ret ?_
          refine Fw.ret_ [.tmp 6] [_] Try.results7 (.tmp rfl .nil) ?_
          exact ⟨rfl, HB⟩
        · rintro hm3
          refine Fw.s (Fw.val_pickF rfl rfl) rfl ?_
          refine Fw.nil ?_
          refine hK4 _ _ (Fw.FC.sub (f' := [(45, _), (7, _), (5, _), (3, _), (1, _)]) (.cons rfl (.cons rfl (.cons rfl (.cons rfl (.cons rfl .nil))))) ?_)
          refine Fw.condF rfl ?_
          refine Fw.skip ?_
          refine hK3 _ _ ?_
          refine Fw.seq fun _ hK11 => ?_
          refine Fw.seq fun _ hK12 => ?_
          have hf := of_decide_eq_true hf
          obtain ⟨u, rfl⟩ : ∃ u : Nat, e = u := ⟨e.toNat, by omega⟩
          have hul : u < ts.length := by omega
          obtain ⟨adHEt, bHEt_, oHEt_, hAHEt, haddHEt, HEt⟩ := Fw.rdAtM h u hul
          refine Fw.region ?_
          refine Fw.s (Fw.val_move rfl) rfl ?_
          refine Fw.s (Fw.val_fieldAddr fl54_0 rfl rfl) rfl ?_
          refine Fw.ld sc3 rfl (Hx.cell 0) rfl ?_
          refine Fw.s (Fw.val_indexR Try.underlying25 sz2 rfl hAHEt rfl rfl hul haddHEt) rfl ?_
          refine Fw.ld sc2 rfl (((HB.cell (World.block_lt_of_cell? _ _ HEt)).trans HEt)) rfl ?_
          refine Fw.s (Fw.val_assign rfl) rfl ?_
          refine Fw.nil ?_
          refine hK12 _ _ ?_
          refine Fw.seq fun _ hK14 => ?_
          refine Fw.region ?_
          refine Fw.s (Fw.val_move rfl) rfl ?_
          refine Fw.s2 (Fw.val_bin rfl rfl Fw.b_lss) rfl ?_ ?_
          · rintro hc1
            refine Fw.s (Fw.val_move rfl) rfl ?_
            refine Fw.gF (d := 54) rfl rfl rfl rfl ?_
            refine Fw.gF (d := 54) rfl rfl rfl rfl ?_
            refine Fw.s (Fw.val_pickT rfl rfl) rfl ?_
            refine Fw.s (Fw.val_move rfl) rfl ?_
            refine Fw.gF (d := 58) rfl rfl rfl rfl ?_
            refine Fw.gF (d := 58) rfl rfl rfl rfl ?_
            refine Fw.gF (d := 58) rfl rfl rfl rfl ?_
            refine Fw.s (Fw.val_pickT rfl rfl) rfl ?_
            refine Fw.nil ?_
            refine hK14 _ _ (Fw.FC.sub (f' := [(62, _), (7, _), (5, _), (3, _), (1, _)]) (.cons rfl (.cons rfl (.cons rfl (.cons rfl (.cons rfl .nil))))) ?_)
            refine Fw.condT rfl ?_
            refine Fw.seq fun _ hK16 => ?_
            refine Fw.region ?_
            refine Fw.s (Fw.val_assign rfl) rfl ?_
            refine Fw.nil ?_
            refine hK16 _ _ ?_
            refine Fw.ret ?_
            refine Fw.X_ret ?_
            refine Fw.ret_ [.tmp 6] [_] Try.results7 (.tmp rfl .nil) ?_
            exact ⟨rfl, HB⟩
          · rintro hc1
            refine Fw.s (Fw.val_move rfl) rfl ?_
            refine Fw.gT (d := 54) rfl rfl ?_
            refine Fw.s (Fw.val_move rfl) rfl ?_
            refine Fw.gT (d := 54) rfl rfl ?_
            refine Fw.s2 (Fw.val_bin rfl rfl Fw.b_gtr) rfl ?_ ?_
            · rintro hc2
              refine Fw.s (Fw.val_pickF rfl rfl) rfl ?_
              refine Fw.s (Fw.val_move rfl) rfl ?_
              refine Fw.gF (d := 58) rfl rfl rfl rfl ?_
              refine Fw.gF (d := 58) rfl rfl rfl rfl ?_
              refine Fw.gF (d := 58) rfl rfl rfl rfl ?_
              refine Fw.s (Fw.val_pickT rfl rfl) rfl ?_
              refine Fw.nil ?_
              refine hK14 _ _ (Fw.FC.sub (f' := [(62, _), (7, _), (5, _), (3, _), (1, _)]) (.cons rfl (.cons rfl (.cons rfl (.cons rfl (.cons rfl .nil))))) ?_)
              refine Fw.condT rfl ?_
              refine Fw.seq fun _ hK18 => ?_
              refine Fw.region ?_
              refine Fw.s (Fw.val_assign rfl) rfl ?_
              refine Fw.nil ?_
              refine hK18 _ _ ?_
              refine Fw.ret ?_
              refine Fw.X_ret ?_
              refine Fw.ret_ [.tmp 6] [_] Try.results7 (.tmp rfl .nil) ?_
              exact ⟨rfl, HB⟩
            · rintro hc2
              refine Fw.s (Fw.val_pickF rfl rfl) rfl ?_
              refine Fw.s (Fw.val_move rfl) rfl ?_
              refine Fw.gT (d := 58) rfl rfl ?_
              refine Fw.s (Fw.val_fieldAddr fl54_1 rfl rfl) rfl ?_
              refine Fw.gT (d := 58) rfl rfl ?_
              refine Fw.ld sc2 rfl (Hx.cell 1) rfl ?_
              refine Fw.gT (d := 58) rfl rfl ?_
              refine Fw.s2 (Fw.val_bin rfl rfl Fw.b_gtr) rfl ?_ ?_
              · rintro hc3
                refine Fw.s (Fw.val_pickF rfl rfl) rfl ?_
                refine Fw.nil ?_
                refine hK14 _ _ (Fw.FC.sub (f' := [(62, _), (7, _), (5, _), (3, _), (1, _)]) (.cons rfl (.cons rfl (.cons rfl (.cons rfl (.cons rfl .nil))))) ?_)
                refine Fw.condT rfl ?_
                refine Fw.seq fun _ hK20 => ?_
                refine Fw.region ?_
                refine Fw.s (Fw.val_assign rfl) rfl ?_
                refine Fw.nil ?_
                refine hK20 _ _ ?_
                refine Fw.ret ?_
                refine Fw.X_ret ?_
                refine Fw.ret_ [.tmp 6] [_] Try.results7 (.tmp rfl .nil) ?_
                exact ⟨rfl, HB⟩
              · rintro hc3
                refine Fw.s (Fw.val_pickF rfl rfl) rfl ?_
                refine Fw.nil ?_
                refine hK14 _ _ (Fw.FC.sub (f' := [(62, _), (7, _), (5, _), (3, _), (1, _)]) (.cons rfl (.cons rfl (.cons rfl (.cons rfl (.cons rfl .nil))))) ?_)
                refine Fw.condF rfl ?_
                refine Fw.skip ?_
                refine hK11 _ _ ?_
                refine Fw.seq fun _ hK21 => ?_
                refine Fw.regionH (by kernel_rfl) ?_
                have R_Hn := Hn
                have R_Hx := Hx
                have R_HB := HB
                intro w8 hb
                have HS := hb
                replace Hn := Hn.low hb
                replace Hx := Hx.low hb
                replace HGb := HGb.trans (hb.mono HGb.size)
                replace HB := HB.trans (hb.mono HB.size)
                clear hb
                refine Fw.hTake 0 rfl rfl (by kernel_rfl) (by kernel_rfl) (by kernel_rfl) (Fw.yV (Fw.val_move rfl)) rfl ?_
                refine Fw.hTake 1 rfl rfl (by kernel_rfl) (by kernel_rfl) (by kernel_rfl) (Fw.yV (Fw.val_move rfl)) rfl ?_
                refine Fw.hTake 3 rfl rfl (by kernel_rfl) (by kernel_rfl) (by kernel_rfl) (Fw.yV (Fw.val_fieldAddr fl54_2 rfl rfl)) rfl ?_
                refine Fw.hTake 4 rfl rfl (by kernel_rfl) (by kernel_rfl) (by kernel_rfl) (Fw.yV (Fw.hLd sc26 rfl (R_Hx.cell 2))) rfl ?_
                refine Fw.hAll1 2 (by kernel_rfl) ?_
                refine Fw.hOp 2 rfl ?_
                refine Fw.call cf16 rfl rfl (longs_any _ A ts c (h.low HB) (by omega)) ?_
                rintro e_ w9 ⟨AL1, cL1, rfl, HL1, hb⟩
                refine ⟨_, rfl, ?_⟩
                replace Hn := Hn.low hb
                replace Hx := Hx.low hb
                replace HGb := HGb.trans (hb.mono HGb.size)
                replace HS := HS.trans (hb.mono HS.size)
                replace HB := HB.trans (hb.mono HB.size)
                clear hb
                refine Fw.hNext HS ?_
                refine Fw.hAll1 5 (by kernel_rfl) ?_
                refine Fw.hOp 5 rfl ?_
                refine Fw.call cf17 rfl rfl (ints_any _ An ends cn (hen.low HB) (by omega)) ?_
                rintro e_ w10 ⟨AI1, cI1, rfl, HI1, hb⟩
                refine ⟨_, rfl, ?_⟩
                replace Hn := Hn.low hb
                replace Hx := Hx.low hb
                replace HGb := HGb.trans (hb.mono HGb.size)
                replace HS := HS.trans (hb.mono HS.size)
                replace HL1 := own_below HL1 hb (Nat.le_refl _)
                replace HB := HB.trans (hb.mono HB.size)
                clear hb
                refine Fw.hNext HS ?_
                refine Fw.hAll1 6 (by kernel_rfl) ?_
                refine Fw.hOp 6 rfl ?_
                refine Fw.call cf15 rfl rfl (from_any _ g N E (HG.low HGb) (by omega) (by omega) hn.ok AL1 ts cL1 (Rd.of_own HL1) AI1 ends cI1 (by omega) (Rd.of_own HI1)) ?_
                rintro e_ w11 ⟨AF, cF, d1, rfl, HF, hd1, ht1, hb⟩
                refine ⟨_, rfl, ?_⟩
                replace Hn := Hn.low hb
                replace Hx := Hx.low hb
                replace HGb := HGb.trans (hb.mono HGb.size)
                replace HS := HS.trans (hb.mono HS.size)
                replace HL1 := own_below HL1 hb (Nat.le_refl _)
                replace HI1 := own_below HI1 hb (Nat.le_refl _)
                replace HB := HB.trans (hb.mono HB.size)
                clear hb
                clear HL1 HI1
                obtain ⟨gF, rfl, hgF1, hgF2⟩ := Fw.own_form0 HF (by omega)
                refine Fw.hNext HS ?_
                refine Fw.hTake 7 rfl rfl (by kernel_rfl) (by kernel_rfl) (by kernel_rfl) (Fw.yV (Fw.val_assign rfl)) rfl ?_
                refine Fw.hDone (by kernel_rfl) ?_
                refine hK21 _ _ (Fw.FC.sub (f' := [(9, _), (7, _), (5, _), (3, _), (1, _)]) (.cons rfl (.cons rfl (.cons rfl (.cons rfl (.cons rfl .nil))))) ?_)
                refine Fw.seq fun _ hK22 => ?_
                refine Fw.region ?_
                refine Fw.s (Fw.val_move rfl) rfl ?_
                have hgF3 := (HF.lt gF rfl).2
                have hnl := Hn.lt
                have hxl := Hx.lt
                have hBs := HB.size
                have hGs := HGb.size
                refine Fw.call cf16 rfl rfl (longs_any _ A ts c (h.low HB) (by omega)) ?_
                rintro e_ w12 ⟨ALs, cLs, rfl, HLs, hb⟩
                refine ⟨_, rfl, ?_⟩
                replace Hn := Hn.low hb
                replace Hx := Hx.low hb
                replace HGb := HGb.trans (hb.mono HGb.size)
                replace HF := own_below HF hb (Nat.le_refl _)
                replace HB := HB.trans (hb.mono HB.size)
                clear hb
                obtain ⟨gS, rfl, hgS1, hgS2⟩ := Fw.own_form0 HLs (by omega)
                have hSF : gF < gS := by omega
                have hSn : gn < gS := by omega
                have hSx : gx < gS := by omega
                have hSw : w.heap.size ≤ gS := by omega
                have hSg : w3.heap.size ≤ gS := by omega
                refine Fw.s (Fw.val_assign rfl) rfl ?_
                refine Fw.nil ?_
                refine hK22 _ _ ?_
                refine Fw.seq fun _ hK23 => ?_
                refine Fw.regionHS (Chg (· = gS) w12) (by kernel_rfl) (Chg.of_below (Fw.drew_low w12) _) ?_
                have R_Hn := Hn
                have R_Hx := Hx
                have R_HB := HB
                intro w13 hb HS
                replace Hn := Hn.low hb
                replace Hx := Hx.low hb
                replace HGb := HGb.trans (hb.mono HGb.size)
                replace HF := own_below HF hb (Nat.le_refl _)
                replace HLs := own_below HLs hb (Nat.le_refl _)
                replace HB := HB.trans (hb.mono HB.size)
                clear hb
                refine Fw.hTake 0 rfl rfl (by kernel_rfl) (by kernel_rfl) (by kernel_rfl) (Fw.yV (Fw.val_move rfl)) rfl ?_
                refine Fw.hTake 1 rfl rfl (by kernel_rfl) (by kernel_rfl) (by kernel_rfl) (Fw.yV (Fw.val_fieldAddr fl54_0 rfl rfl)) rfl ?_
                refine Fw.hTake 2 rfl rfl (by kernel_rfl) (by kernel_rfl) (by kernel_rfl) (Fw.yV (Fw.hLdC sc3 rfl (R_Hx.cell 0) (by show ¬ gx = gS; omega))) rfl ?_
                have HCs := Rg.own_cell HLs _ hul
                refine Fw.hTake 3 rfl rfl (by kernel_rfl) (by kernel_rfl) (by kernel_rfl) (Fw.yV (Fw.val_indexR Try.underlying25 sz2 rfl rfl rfl rfl hul (by rw [Fw.add_flat, Nat.zero_add, Nat.mul_one]))) rfl ?_
                refine Fw.hTake 5 rfl rfl (by kernel_rfl) (by kernel_rfl) (by kernel_rfl) (Fw.yV (Fw.val_fieldAddr fl54_1 rfl rfl)) rfl ?_
                refine Fw.hTake 6 rfl rfl (by kernel_rfl) (by kernel_rfl) (by kernel_rfl) (Fw.yV (Fw.hLdC sc2 rfl (R_Hx.cell 1) (by show ¬ gx = gS; omega))) rfl ?_
                refine Fw.hAll1 4 (by kernel_rfl) ?_
                refine Fw.hOp 4 rfl ?_
                refine Fw.ld sc2 rfl (HCs) rfl ?_
                refine Fw.hNext HS ?_
                refine Fw.hTake 7 rfl rfl (by kernel_rfl) (by kernel_rfl) (by kernel_rfl) (Fw.yV (Fw.val_bin rfl rfl (Fw.b_add (Fw.i64_ok (by omega))))) rfl ?_
                have EW25 := True.intro
                refine Fw.hTake 8 rfl rfl (by kernel_rfl) (by kernel_rfl) (by kernel_rfl) (Fw.yV (Fw.val_indexR Try.underlying25 sz2 rfl rfl rfl rfl hul (by rw [Fw.add_flat, Nat.zero_add, Nat.mul_one]))) rfl ?_
                refine Fw.hAll1 9 (by kernel_rfl) ?_
                refine Fw.hOp 9 rfl ?_
                refine Fw.storeR sz2 rfl rfl HLs (by simpa using hul) rfl rfl ?_
                intro w14 N_ hc
                replace Hn := Hn.chg hc (by omega)
                replace Hx := Hx.chg hc (by omega)
                replace HGb := HGb.trans (hc.below (B := w3.heap.size) (fun k e => by have e : k = gS := e; omega) HGb.size)
                replace HF := own_to HF hc (fun g_ h_ e_ => by injection h_ with h_; have h_ : gF = g_ := h_; have e_ : g_ = gS := e_; omega)
                replace HS := HS.trans hc (fun _ _ h => h)
                replace HB := HB.trans (hc.below (B := w.heap.size) (fun k e => by omega) HB.size)
                clear hc
                clear HLs EW25
                have HLs := N_
                clear N_
                replace HLs : World.ownsRow w14 w11.heap.size 2 1 (.slice (some ⟨gS, 0, none⟩) ts.length cLs) ts.length ((ts.set u (ts[u] + L)).map (.int .i64)) := by simpa using HLs
                refine Fw.hNext HS ?_
                refine Fw.hDone (by kernel_rfl) ?_
                refine hK23 _ _ (Fw.FC.sub (f' := [(10, _), (9, _), (7, _), (5, _), (3, _), (1, _)]) (.cons rfl (.cons rfl (.cons rfl (.cons rfl (.cons rfl (.cons rfl .nil)))))) ?_)
                refine Fw.seq fun _ hK27 => ?_
                refine Fw.region ?_
                refine Fw.s (Fw.val_move rfl) rfl ?_
                refine Fw.s (Fw.val_move rfl) rfl ?_
                refine Fw.s (Fw.val_fieldAddr fl54_2 rfl rfl) rfl ?_
                refine Fw.ld sc26 rfl (Hx.cell 2) rfl ?_
                refine Fw.call cf17 rfl rfl (ints_any _ An ends cn (hen.low HB) (by omega)) ?_
                rintro e_ w15 ⟨AI2, cI2, rfl, HI2, hb⟩
                refine ⟨_, rfl, ?_⟩
                replace Hn := Hn.low hb
                replace Hx := Hx.low hb
                replace HGb := HGb.trans (hb.mono HGb.size)
                replace HF := own_below HF hb (Nat.le_refl _)
                replace HLs := own_below HLs hb (Nat.le_refl _)
                replace HB := HB.trans (hb.mono HB.size)
                clear hb
                refine Fw.call cf15 rfl rfl (from2_any _ g N E (HG.low HGb) (by omega) (by omega) hn.ok ts.length (some ⟨gS, 0, none⟩) (ts.set u (ts[u] + L)) cLs (List.length_set ..) (Rd.of_own HLs) ends.length AI2 ends cI2 (by omega) rfl (Rd.of_own HI2)) ?_
                rintro e_ w16 ⟨AE, cE, d2, rfl, HE2, hd2, ht2, hb⟩
                refine ⟨_, rfl, ?_⟩
                replace Hn := Hn.low hb
                replace Hx := Hx.low hb
                replace HGb := HGb.trans (hb.mono HGb.size)
                replace HF := own_below HF hb (Nat.le_refl _)
                replace HLs := own_below HLs hb (Nat.le_refl _)
                replace HI2 := own_below HI2 hb (Nat.le_refl _)
                replace HB := HB.trans (hb.mono HB.size)
                clear hb
                clear HLs HI2
                replace HE2 := Rd.of_own HE2
                refine Fw.s (Fw.val_assign rfl) rfl ?_
                refine Fw.nil ?_
                refine hK27 _ _ (Fw.FC.sub (f' := [(11, _), (9, _), (7, _), (5, _), (3, _), (1, _)]) (.cons rfl (.cons rfl (.cons rfl (.cons rfl (.cons rfl (.cons rfl .nil)))))) ?_)
                have HFr := Rd.of_own HF
                clear HF
                have R_HGb := HGb
                refine Fw.seq_cutE (α := Option Addr × Nat × List Int) (fun x_ => match x_ with | ⟨AM, cM, d3⟩ => [(3, .pointer (some ⟨gn, 0, none⟩)), (9, .slice (some ⟨gF, 0, none⟩) N cF), (11, .slice AE N cE), (12, .slice AM N cM)]) (fun x_ W_ => match x_ with | ⟨AM, cM, d3⟩ => Blk W_ gn 24 #[.int .i64 (N : Int), .slice Ae E.length ce] ∧ Rd W_ (some ⟨gF, 0, none⟩) (d1.map (.int .i64)) ∧ Rd W_ AE (d2.map (.int .i64)) ∧ Rd W_ AM (d3.map (.int .i64)) ∧ (d3.length = N ∧ Sp.IsDist (Rg.arcT N E ts true) 1048576 (fun v => (v : Int) ∈ ends ++ [m]) (Sp.ix d3)) ∧ Below (w.heap.size) w W_) ?_ (fun _ hK28 => ?_)
                · rintro ⟨AM, cM, d3⟩ w17 ⟨Hn, HFr, HE2, HM3, hp3, HB⟩
                  show Fw.FC _ _ _ _ _ [(3, .pointer (some ⟨gn, 0, none⟩)), (9, .slice (some ⟨gF, 0, none⟩) N cF), (11, .slice AE N cE), (12, .slice AM N cM)] _
                  refine Fw.seq fun _ hK29 => ?_
                  refine Fw.seq fun _ hK30 => ?_
                  refine Fw.region ?_
                  refine Fw.s (Fw.val_move rfl) rfl ?_
                  refine Fw.s (Fw.val_len Try.underlying25 rfl) rfl ?_
                  refine Fw.s (Fw.val_fieldAddr fl24_0 rfl rfl) rfl ?_
                  refine Fw.ld sc3 rfl (Hn.cell 0) rfl ?_
                  refine Fw.s (Fw.Val.F (Fw.val_bin rfl rfl Fw.b_neq) (by exact fun h_ => h_ rfl)) rfl ?_
                  refine Fw.s (Fw.val_move rfl) rfl ?_
                  refine Fw.gT (d := 103) rfl rfl ?_
                  refine Fw.s (Fw.val_move rfl) rfl ?_
                  refine Fw.gT (d := 103) rfl rfl ?_
                  refine Fw.s (Fw.val_len Try.underlying25 rfl) rfl ?_
                  refine Fw.gT (d := 103) rfl rfl ?_
                  refine Fw.s (Fw.val_fieldAddr fl24_0 rfl rfl) rfl ?_
                  refine Fw.gT (d := 103) rfl rfl ?_
                  refine Fw.ld sc3 rfl (Hn.cell 0) rfl ?_
                  refine Fw.gT (d := 103) rfl rfl ?_
                  refine Fw.s (Fw.Val.F (Fw.val_bin rfl rfl Fw.b_neq) (by exact fun h_ => h_ rfl)) rfl ?_
                  refine Fw.s (Fw.val_pickF rfl rfl) rfl ?_
                  refine Fw.s (Fw.val_move rfl) rfl ?_
                  refine Fw.gT (d := 110) rfl rfl ?_
                  refine Fw.s (Fw.val_move rfl) rfl ?_
                  refine Fw.gT (d := 110) rfl rfl ?_
                  refine Fw.s (Fw.val_len Try.underlying25 rfl) rfl ?_
                  refine Fw.gT (d := 110) rfl rfl ?_
                  refine Fw.s (Fw.val_fieldAddr fl24_0 rfl rfl) rfl ?_
                  refine Fw.gT (d := 110) rfl rfl ?_
                  refine Fw.ld sc3 rfl (Hn.cell 0) rfl ?_
                  refine Fw.gT (d := 110) rfl rfl ?_
                  refine Fw.s (Fw.Val.F (Fw.val_bin rfl rfl Fw.b_neq) (by exact fun h_ => h_ rfl)) rfl ?_
                  refine Fw.s (Fw.val_pickF rfl rfl) rfl ?_
                  refine Fw.nil ?_
                  refine hK30 _ _ (Fw.FC.sub (f' := [(116, _), (9, _), (11, _), (12, _)]) (.cons rfl (.cons rfl (.cons rfl (.cons rfl .nil)))) ?_)
                  refine Fw.condF rfl ?_
                  refine Fw.skip ?_
                  refine hK29 _ _ ?_
                  refine Fw.seq fun _ hK31 => ?_
                  refine Fw.seq fun _ hK32 => ?_
                  refine Fw.region ?_
                  refine Fw.s (Fw.val_move rfl) rfl ?_
                  refine Fw.s (Fw.val_len Try.underlying25 rfl) rfl ?_
                  refine Fw.s (Fw.val_move rfl) rfl ?_
                  refine Fw.nil ?_
                  refine hK32 _ _ ?_
                  refine Fw.block ?_
                  obtain ⟨hd3, ht3⟩ := hp3
                  refine Fw.loop (fun m_ f_ W_ => ∃ (k : Nat), m_ = N - k ∧ k ≤ N ∧ Rd W_ (some ⟨gF, 0, none⟩) (d1.map (.int .i64)) ∧ Rd W_ AE (d2.map (.int .i64)) ∧ Rd W_ AM (d3.map (.int .i64)) ∧ Below (w.heap.size) w W_ ∧ f_ = [(119, .int .i64 k), (118, .int .i64 (N : Int)), (9, .slice (some ⟨gF, 0, none⟩) N cF), (11, .slice AE N cE), (12, .slice AM N cM)]) ⟨_, _, ⟨0, rfl, Nat.zero_le _, HFr, HE2, HM3, HB, rfl⟩, (.cons rfl (.cons rfl (.cons rfl (.cons rfl (.cons rfl .nil)))))⟩ ?_
                  clear HFr HE2 HM3 HB
                  rintro m33_ _ w18 ⟨k, hm33_, hkn, HFr, HE2, HM3, HB, rfl⟩
                  refine Fw.seq fun _ hK34 => ?_
                  refine Fw.region ?_
                  refine Fw.s2 (Fw.val_bin rfl rfl Fw.b_lss) rfl ?_ ?_
                  · rintro hk1
                    refine Fw.nil ?_
                    refine hK34 _ _ ?_
                    refine Fw.seq fun _ hK36 => ?_
                    refine Fw.condT rfl ?_
                    refine Fw.skip ?_
                    refine hK36 _ _ ?_
                    refine Fw.seq fun _ hK37 => ?_
                    refine Fw.block ?_
                    refine Fw.seq fun _ hK38 => ?_
                    refine Fw.region ?_
                    refine Fw.s (Fw.val_move rfl) rfl ?_
                    refine Fw.s (Fw.val_assign rfl) rfl ?_
                    refine Fw.nil ?_
                    refine hK38 _ _ ?_
                    refine Fw.seq fun _ hK39 => ?_
                    have hkN : k < N := by omega
                    have hk1 : k < d1.length := by omega
                    have hk2 : k < d2.length := by omega
                    have hk3 : k < d3.length := by omega
                    have h1 := Rg.slow_ge hn.ok hul (by omega) (by omega) ht1 ht2 k hkN
                    have h2 := Rg.more_le hn.ok ht1 ht3 k hkN
                    rw [Sp.ix_get hk1, Sp.ix_get hk2] at h1
                    rw [Sp.ix_get hk1, Sp.ix_get hk3] at h2
                    obtain ⟨adC1, bC1_, oC1_, hAC1, haddC1, C1⟩ := Fw.rdAtM HE2 k hk2
                    obtain ⟨adC2, bC2_, oC2_, hAC2, haddC2, C2⟩ := Fw.rdAtM HFr k hk1
                    obtain ⟨adC3, bC3_, oC3_, hAC3, haddC3, C3⟩ := Fw.rdAtM HM3 k hk3
                    refine Fw.regionQ (by kernel_rfl) (by kernel_rfl) ?_
                    refine Fw.q (Fw.val_move rfl) rfl ?_
                    refine Fw.q (Fw.val_move rfl) rfl ?_
                    refine Fw.q (Fw.val_indexR Try.underlying25 sz2 rfl hAC1 rfl rfl hkN haddC1) rfl ?_
                    refine Fw.ldQ sc2 rfl (C1) rfl ?_
                    refine Fw.q (Fw.val_move rfl) rfl ?_
                    refine Fw.q (Fw.val_move rfl) rfl ?_
                    refine Fw.q (Fw.val_indexR Try.underlying25 sz2 rfl hAC2 rfl rfl hkN haddC2) rfl ?_
                    refine Fw.ldQ sc2 rfl (C2) rfl ?_
                    refine Fw.q (Fw.Val.F (Fw.val_bin rfl rfl Fw.b_lss) (by omega)) rfl ?_
                    refine Fw.q (Fw.val_move rfl) rfl ?_
                    refine Fw.gTQ (d := 131) rfl rfl ?_
                    refine Fw.q (Fw.val_move rfl) rfl ?_
                    refine Fw.gTQ (d := 131) rfl rfl ?_
                    refine Fw.q (Fw.val_move rfl) rfl ?_
                    refine Fw.gTQ (d := 131) rfl rfl ?_
                    refine Fw.q (Fw.val_indexR Try.underlying25 sz2 rfl hAC3 rfl rfl hkN haddC3) rfl ?_
                    refine Fw.gTQ (d := 131) rfl rfl ?_
                    refine Fw.ldQ sc2 rfl (C3) rfl ?_
                    refine Fw.gTQ (d := 131) rfl rfl ?_
                    refine Fw.q (Fw.val_move rfl) rfl ?_
                    refine Fw.gTQ (d := 131) rfl rfl ?_
                    refine Fw.q (Fw.val_move rfl) rfl ?_
                    refine Fw.gTQ (d := 131) rfl rfl ?_
                    refine Fw.q (Fw.val_indexR Try.underlying25 sz2 rfl hAC2 rfl rfl hkN haddC2) rfl ?_
                    refine Fw.gTQ (d := 131) rfl rfl ?_
                    refine Fw.ldQ sc2 rfl (C2) rfl ?_
                    refine Fw.gTQ (d := 131) rfl rfl ?_
                    refine Fw.q (Fw.Val.F (Fw.val_bin rfl rfl Fw.b_gtr) (by omega)) rfl ?_
                    refine Fw.q (Fw.val_pickF rfl rfl) rfl ?_
                    refine Fw.nilQ ?_
                    intro w19 hb
                    clear C1
                    replace HFr := HFr.low hb
                    replace HE2 := HE2.low hb
                    replace HM3 := HM3.low hb
                    replace C2 := (hb.cell (World.block_lt_of_cell? _ _ C2)).trans C2
                    replace C3 := (hb.cell (World.block_lt_of_cell? _ _ C3)).trans C3
                    replace HB := HB.trans (hb.mono HB.size)
                    clear hb
                    refine hK39 _ _ (Fw.FC.sub (f' := [(141, _), (140, _), (139, _), (138, _), (137, _), (136, _), (135, _), (134, _), (133, _), (132, _), (119, _), (118, _), (9, _), (11, _), (12, _)]) (.cons rfl (.cons rfl (.cons rfl (.cons rfl (.cons rfl (.cons rfl (.cons rfl (.cons rfl (.cons rfl (.cons rfl (.cons rfl (.cons rfl (.cons rfl (.cons rfl (.cons rfl .nil))))))))))))))) ?_)
                    refine Fw.condF rfl ?_
                    refine Fw.skip ?_
                    refine Fw.X_blockN ?_
                    refine hK37 _ _ ?_
                    refine Fw.region ?_
                    refine Fw.s (Fw.val_bin rfl rfl (Fw.b_add (Fw.i64_ok (by omega)))) rfl ?_
                    refine Fw.s (Fw.val_move rfl) rfl ?_
                    refine Fw.nil ?_
                    refine Fw.roundEnd _ _ (by omega) ⟨k + 1, rfl, by omega, HFr, HE2, HM3, HB, rfl⟩ (.cons rfl (.cons rfl (.cons rfl (.cons rfl (.cons rfl .nil)))))
                  · rintro hk1
                    refine Fw.nil ?_
                    refine hK34 _ _ ?_
                    refine Fw.seq fun _ hK44 => ?_
                    refine Fw.condF rfl ?_
                    refine Fw.exit ?_
                    refine Fw.X_exit ?_
                    refine Fw.X_exit ?_
                    refine Fw.X_block ?_
                    refine hK31 _ _ ?_
                    refine Fw.seq fun _ hK45 => ?_
                    refine Fw.region ?_
                    refine Fw.s (Fw.val_assign rfl) rfl ?_
                    refine Fw.nil ?_
                    refine hK45 _ _ ?_
                    refine Fw.ret ?_
                    refine Fw.ret_ [.tmp 6] [_] Try.results7 (.tmp rfl .nil) ?_
                    exact ⟨rfl, HB⟩
                · skip
                  refine Fw.regionH (by kernel_rfl) ?_
                  have R_Hn := Hn
                  have R_Hx := Hx
                  have R_HE2 := HE2
                  have R_HFr := HFr
                  have R_HB := HB
                  intro w20 hb
                  have HS := hb
                  replace Hn := Hn.low hb
                  replace Hx := Hx.low hb
                  replace HGb := HGb.trans (hb.mono HGb.size)
                  replace HE2 := HE2.low hb
                  replace HFr := HFr.low hb
                  replace HB := HB.trans (hb.mono HB.size)
                  clear hb
                  refine Fw.hTake 0 rfl rfl (by kernel_rfl) (by kernel_rfl) (by kernel_rfl) (Fw.yV (Fw.val_move rfl)) rfl ?_
                  refine Fw.hTake 1 rfl rfl (by kernel_rfl) (by kernel_rfl) (by kernel_rfl) (Fw.yV (Fw.val_move rfl)) rfl ?_
                  refine Fw.hTake 3 rfl rfl (by kernel_rfl) (by kernel_rfl) (by kernel_rfl) (Fw.yV (Fw.val_fieldAddr fl54_2 rfl rfl)) rfl ?_
                  refine Fw.hTake 4 rfl rfl (by kernel_rfl) (by kernel_rfl) (by kernel_rfl) (Fw.yV (Fw.hLd sc26 rfl (R_Hx.cell 2))) rfl ?_
                  refine Fw.hTake 6 rfl rfl (by kernel_rfl) (by kernel_rfl) (by kernel_rfl) (Fw.yV (Fw.val_fieldAddr fl54_3 rfl rfl)) rfl ?_
                  refine Fw.hTake 7 rfl rfl (by kernel_rfl) (by kernel_rfl) (by kernel_rfl) (Fw.yV (Fw.hLd sc3 rfl (R_Hx.cell 3))) rfl ?_
                  refine Fw.hAll2 2 8 (by kernel_rfl) ?_ ?_
                  · skip
                    refine Fw.hOp 2 rfl ?_
                    refine Fw.call cf16 rfl rfl (longs_any _ A ts c (h.low HB) (by omega)) ?_
                    rintro e_ w21 ⟨AL3, cL3, rfl, HL3, hb⟩
                    refine ⟨_, rfl, ?_⟩
                    replace Hn := Hn.low hb
                    replace Hx := Hx.low hb
                    replace HGb := HGb.trans (hb.mono HGb.size)
                    replace HE2 := HE2.low hb
                    replace HFr := HFr.low hb
                    replace HS := HS.trans (hb.mono HS.size)
                    replace HB := HB.trans (hb.mono HB.size)
                    clear hb
                    obtain ⟨gL3, rfl, _, _⟩ := Fw.own_form0 HL3 (by omega)
                    refine Fw.hNext HS ?_
                    refine Fw.hAll2 5 8 (by kernel_rfl) ?_ ?_
                    · skip
                      refine Fw.hOp 5 rfl ?_
                      refine Fw.call cf17 rfl rfl (ints_any _ An ends cn (hen.low HB) (by omega)) ?_
                      rintro e_ w22 ⟨AI3, cI3, rfl, HI3, hb⟩
                      refine ⟨_, rfl, ?_⟩
                      have hzI := HS.size
                      replace Hn := Hn.low hb
                      replace Hx := Hx.low hb
                      replace HGb := HGb.trans (hb.mono HGb.size)
                      replace HE2 := HE2.low hb
                      replace HFr := HFr.low hb
                      replace HS := HS.trans (hb.mono HS.size)
                      replace HL3 := own_below HL3 hb (Nat.le_refl _)
                      replace HB := HB.trans (hb.mono HB.size)
                      clear hb
                      replace HI3 := own_base (B := w16.heap.size) HI3 hzI
                      clear hzI
                      refine Fw.hNext HS ?_
                      refine Fw.hAll1 8 (by kernel_rfl) ?_
                      refine Fw.hOp 8 rfl ?_
                      refine Fw.buildSlice [_] sl26 rfl rfl (by exact Fw.allSz rfl) (by decide) rfl ?_
                      intro w23 gS95 egS95 HS95 hb
                      have rgS95 : w16.heap.size ≤ gS95 := by have := HS.size; omega
                      have n_gn_gS95 : gn < gS95 := by have := Hn.lt; omega
                      have n_gx_gS95 : gx < gS95 := by have := Hx.lt; omega
                      have lgS95 : w.heap.size ≤ gS95 := by have := HB.size; omega
                      replace Hn := Hn.low hb
                      replace Hx := Hx.low hb
                      replace HGb := HGb.trans (hb.mono HGb.size)
                      replace HE2 := HE2.low hb
                      replace HFr := HFr.low hb
                      replace HS := HS.trans (hb.mono HS.size)
                      replace HL3 := own_below HL3 hb (Nat.le_refl _)
                      replace HI3 := own_below HI3 hb (Nat.le_refl _)
                      replace HB := HB.trans (hb.mono HB.size)
                      clear hb
                      clear egS95
                      refine Fw.hNext HS ?_
                      refine Fw.hAll1 9 (by kernel_rfl) ?_
                      refine Fw.hOp 9 rfl ?_
                      obtain ⟨_, HLbk, _⟩ := Fw.own_at HL3
                      refine Fw.append (base := w16.heap.size) (ends.length + 1) ((ends ++ [m]).map (.int .i64)) sl26 rfl rfl HI3 (show Rd _ _ ([m].map (.int .i64)) from Fw.rdBlk HS95) rfl (Rg.one_ints [m]) (by unfold maxLen; omega) HS.size rfl (List.map_append ..).symm rfl ?_
                      intro A96 c96 w24 N_ hbb hc hrow
                      replace HL3 := own_to HL3 hc (fun g_ h_ e_ => own_ne_blk HI3 HLbk (by decide) (by rw [← e_]; injection h_ with h_; exact congrArg some h_.symm))
                      replace HS := HS.trans hbb
                      replace HB := HB.trans (hbb.mono R_HB.size)
                      replace HGb := R_HGb.trans (HS.mono R_HGb.size)
                      replace Hn := R_Hn.low HS
                      replace Hx := R_Hx.low HS
                      replace HFr := R_HFr.low HS
                      replace HE2 := R_HE2.low HS
                      clear hbb hc hrow HI3 HS95 HLbk
                      refine Fw.hNext HS ?_
                      refine Fw.hAll1 10 (by kernel_rfl) ?_
                      refine Fw.hOp 10 rfl ?_
                      refine Fw.call cf15 rfl rfl (from2_any _ g N E (HG.low HGb) (by omega) (by omega) hn.ok ts.length (some ⟨gL3, 0, none⟩) ts cL3 rfl (Rd.of_own HL3) (ends.length + 1) A96 (ends ++ [m]) c96 (by omega) (by simp) (Rd.of_own N_)) ?_
                      rintro e_ w25 ⟨AM, cM, d3, rfl, HM3, hd3, ht3, hb⟩
                      refine ⟨_, rfl, ?_⟩
                      replace Hn := Hn.low hb
                      replace Hx := Hx.low hb
                      replace HGb := HGb.trans (hb.mono HGb.size)
                      replace HE2 := HE2.low hb
                      replace HFr := HFr.low hb
                      replace HS := HS.trans (hb.mono HS.size)
                      replace HL3 := own_below HL3 hb (Nat.le_refl _)
                      replace HB := HB.trans (hb.mono HB.size)
                      clear hb
                      clear HL3
                      replace HM3 := Rd.of_own HM3
                      refine Fw.hNext HS ?_
                      refine Fw.hTake 11 rfl rfl (by kernel_rfl) (by kernel_rfl) (by kernel_rfl) (Fw.yV (Fw.val_assign rfl)) rfl ?_
                      refine Fw.hDone (by kernel_rfl) ?_
                      exact hK28 _ _ ⟨AM, cM, d3⟩ ⟨Hn, HFr, HE2, HM3, ⟨hd3, ht3⟩, HB⟩ (.cons rfl (.cons rfl (.cons rfl (.cons rfl .nil))))
                    · skip
                      refine Fw.hOp 8 rfl ?_
                      refine Fw.buildSlice [_] sl26 rfl rfl (by exact Fw.allSz rfl) (by decide) rfl ?_
                      intro w26 gS95 egS95 HS95 hb
                      have rgS95 : w16.heap.size ≤ gS95 := by have := HS.size; omega
                      have n_gn_gS95 : gn < gS95 := by have := Hn.lt; omega
                      have n_gx_gS95 : gx < gS95 := by have := Hx.lt; omega
                      have lgS95 : w.heap.size ≤ gS95 := by have := HB.size; omega
                      replace Hn := Hn.low hb
                      replace Hx := Hx.low hb
                      replace HGb := HGb.trans (hb.mono HGb.size)
                      replace HE2 := HE2.low hb
                      replace HFr := HFr.low hb
                      replace HS := HS.trans (hb.mono HS.size)
                      replace HL3 := own_below HL3 hb (Nat.le_refl _)
                      replace HB := HB.trans (hb.mono HB.size)
                      clear hb
                      clear egS95
                      refine Fw.hNext HS ?_
                      refine Fw.hAll1 5 (by kernel_rfl) ?_
                      refine Fw.hOp 5 rfl ?_
                      refine Fw.call cf17 rfl rfl (ints_any _ An ends cn (hen.low HB) (by omega)) ?_
                      rintro e_ w27 ⟨AI3, cI3, rfl, HI3, hb⟩
                      refine ⟨_, rfl, ?_⟩
                      have hzI := HS.size
                      replace Hn := Hn.low hb
                      replace Hx := Hx.low hb
                      replace HGb := HGb.trans (hb.mono HGb.size)
                      replace HE2 := HE2.low hb
                      replace HFr := HFr.low hb
                      replace HS := HS.trans (hb.mono HS.size)
                      replace HL3 := own_below HL3 hb (Nat.le_refl _)
                      replace HS95 := HS95.low hb
                      replace HB := HB.trans (hb.mono HB.size)
                      clear hb
                      replace HI3 := own_base (B := w16.heap.size) HI3 hzI
                      clear hzI
                      refine Fw.hNext HS ?_
                      refine Fw.hAll1 9 (by kernel_rfl) ?_
                      refine Fw.hOp 9 rfl ?_
                      obtain ⟨_, HLbk, _⟩ := Fw.own_at HL3
                      refine Fw.append (base := w16.heap.size) (ends.length + 1) ((ends ++ [m]).map (.int .i64)) sl26 rfl rfl HI3 (show Rd _ _ ([m].map (.int .i64)) from Fw.rdBlk HS95) rfl (Rg.one_ints [m]) (by unfold maxLen; omega) HS.size rfl (List.map_append ..).symm rfl ?_
                      intro A96 c96 w28 N_ hbb hc hrow
                      replace HL3 := own_to HL3 hc (fun g_ h_ e_ => own_ne_blk HI3 HLbk (by decide) (by rw [← e_]; injection h_ with h_; exact congrArg some h_.symm))
                      replace HS := HS.trans hbb
                      replace HB := HB.trans (hbb.mono R_HB.size)
                      replace HGb := R_HGb.trans (HS.mono R_HGb.size)
                      replace Hn := R_Hn.low HS
                      replace Hx := R_Hx.low HS
                      replace HFr := R_HFr.low HS
                      replace HE2 := R_HE2.low HS
                      clear hbb hc hrow HI3 HS95 HLbk
                      refine Fw.hNext HS ?_
                      refine Fw.hAll1 10 (by kernel_rfl) ?_
                      refine Fw.hOp 10 rfl ?_
                      refine Fw.call cf15 rfl rfl (from2_any _ g N E (HG.low HGb) (by omega) (by omega) hn.ok ts.length (some ⟨gL3, 0, none⟩) ts cL3 rfl (Rd.of_own HL3) (ends.length + 1) A96 (ends ++ [m]) c96 (by omega) (by simp) (Rd.of_own N_)) ?_
                      rintro e_ w29 ⟨AM, cM, d3, rfl, HM3, hd3, ht3, hb⟩
                      refine ⟨_, rfl, ?_⟩
                      replace Hn := Hn.low hb
                      replace Hx := Hx.low hb
                      replace HGb := HGb.trans (hb.mono HGb.size)
                      replace HE2 := HE2.low hb
                      replace HFr := HFr.low hb
                      replace HS := HS.trans (hb.mono HS.size)
                      replace HL3 := own_below HL3 hb (Nat.le_refl _)
                      replace HB := HB.trans (hb.mono HB.size)
                      clear hb
                      clear HL3
                      replace HM3 := Rd.of_own HM3
                      refine Fw.hNext HS ?_
                      refine Fw.hTake 11 rfl rfl (by kernel_rfl) (by kernel_rfl) (by kernel_rfl) (Fw.yV (Fw.val_assign rfl)) rfl ?_
                      refine Fw.hDone (by kernel_rfl) ?_
                      exact hK28 _ _ ⟨AM, cM, d3⟩ ⟨Hn, HFr, HE2, HM3, ⟨hd3, ht3⟩, HB⟩ (.cons rfl (.cons rfl (.cons rfl (.cons rfl .nil))))
                  · skip
                    refine Fw.hOp 8 rfl ?_
                    refine Fw.buildSlice [_] sl26 rfl rfl (by exact Fw.allSz rfl) (by decide) rfl ?_
                    intro w30 gS95 egS95 HS95 hb
                    have rgS95 : w16.heap.size ≤ gS95 := by have := HS.size; omega
                    have n_gn_gS95 : gn < gS95 := by have := Hn.lt; omega
                    have n_gx_gS95 : gx < gS95 := by have := Hx.lt; omega
                    have lgS95 : w.heap.size ≤ gS95 := by have := HB.size; omega
                    replace Hn := Hn.low hb
                    replace Hx := Hx.low hb
                    replace HGb := HGb.trans (hb.mono HGb.size)
                    replace HE2 := HE2.low hb
                    replace HFr := HFr.low hb
                    replace HS := HS.trans (hb.mono HS.size)
                    replace HB := HB.trans (hb.mono HB.size)
                    clear hb
                    clear egS95
                    refine Fw.hNext HS ?_
                    refine Fw.hAll1 2 (by kernel_rfl) ?_
                    refine Fw.hOp 2 rfl ?_
                    refine Fw.call cf16 rfl rfl (longs_any _ A ts c (h.low HB) (by omega)) ?_
                    rintro e_ w31 ⟨AL3, cL3, rfl, HL3, hb⟩
                    refine ⟨_, rfl, ?_⟩
                    replace Hn := Hn.low hb
                    replace Hx := Hx.low hb
                    replace HGb := HGb.trans (hb.mono HGb.size)
                    replace HE2 := HE2.low hb
                    replace HFr := HFr.low hb
                    replace HS := HS.trans (hb.mono HS.size)
                    replace HS95 := HS95.low hb
                    replace HB := HB.trans (hb.mono HB.size)
                    clear hb
                    obtain ⟨gL3, rfl, _, _⟩ := Fw.own_form0 HL3 (by omega)
                    refine Fw.hNext HS ?_
                    refine Fw.hAll1 5 (by kernel_rfl) ?_
                    refine Fw.hOp 5 rfl ?_
                    refine Fw.call cf17 rfl rfl (ints_any _ An ends cn (hen.low HB) (by omega)) ?_
                    rintro e_ w32 ⟨AI3, cI3, rfl, HI3, hb⟩
                    refine ⟨_, rfl, ?_⟩
                    have hzI := HS.size
                    replace Hn := Hn.low hb
                    replace Hx := Hx.low hb
                    replace HGb := HGb.trans (hb.mono HGb.size)
                    replace HE2 := HE2.low hb
                    replace HFr := HFr.low hb
                    replace HS := HS.trans (hb.mono HS.size)
                    replace HS95 := HS95.low hb
                    replace HL3 := own_below HL3 hb (Nat.le_refl _)
                    replace HB := HB.trans (hb.mono HB.size)
                    clear hb
                    replace HI3 := own_base (B := w16.heap.size) HI3 hzI
                    clear hzI
                    refine Fw.hNext HS ?_
                    refine Fw.hAll1 9 (by kernel_rfl) ?_
                    refine Fw.hOp 9 rfl ?_
                    obtain ⟨_, HLbk, _⟩ := Fw.own_at HL3
                    refine Fw.append (base := w16.heap.size) (ends.length + 1) ((ends ++ [m]).map (.int .i64)) sl26 rfl rfl HI3 (show Rd _ _ ([m].map (.int .i64)) from Fw.rdBlk HS95) rfl (Rg.one_ints [m]) (by unfold maxLen; omega) HS.size rfl (List.map_append ..).symm rfl ?_
                    intro A96 c96 w33 N_ hbb hc hrow
                    replace HL3 := own_to HL3 hc (fun g_ h_ e_ => own_ne_blk HI3 HLbk (by decide) (by rw [← e_]; injection h_ with h_; exact congrArg some h_.symm))
                    replace HS := HS.trans hbb
                    replace HB := HB.trans (hbb.mono R_HB.size)
                    replace HGb := R_HGb.trans (HS.mono R_HGb.size)
                    replace Hn := R_Hn.low HS
                    replace Hx := R_Hx.low HS
                    replace HFr := R_HFr.low HS
                    replace HE2 := R_HE2.low HS
                    clear hbb hc hrow HI3 HS95 HLbk
                    refine Fw.hNext HS ?_
                    refine Fw.hAll1 10 (by kernel_rfl) ?_
                    refine Fw.hOp 10 rfl ?_
                    refine Fw.call cf15 rfl rfl (from2_any _ g N E (HG.low HGb) (by omega) (by omega) hn.ok ts.length (some ⟨gL3, 0, none⟩) ts cL3 rfl (Rd.of_own HL3) (ends.length + 1) A96 (ends ++ [m]) c96 (by omega) (by simp) (Rd.of_own N_)) ?_
                    rintro e_ w34 ⟨AM, cM, d3, rfl, HM3, hd3, ht3, hb⟩
                    refine ⟨_, rfl, ?_⟩
                    replace Hn := Hn.low hb
                    replace Hx := Hx.low hb
                    replace HGb := HGb.trans (hb.mono HGb.size)
                    replace HE2 := HE2.low hb
                    replace HFr := HFr.low hb
                    replace HS := HS.trans (hb.mono HS.size)
                    replace HL3 := own_below HL3 hb (Nat.le_refl _)
                    replace HB := HB.trans (hb.mono HB.size)
                    clear hb
                    clear HL3
                    replace HM3 := Rd.of_own HM3
                    refine Fw.hNext HS ?_
                    refine Fw.hTake 11 rfl rfl (by kernel_rfl) (by kernel_rfl) (by kernel_rfl) (Fw.yV (Fw.val_assign rfl)) rfl ?_
                    refine Fw.hDone (by kernel_rfl) ?_
                    exact hK28 _ _ ⟨AM, cM, d3⟩ ⟨Hn, HFr, HE2, HM3, ⟨hd3, ht3⟩, HB⟩ (.cons rfl (.cons rfl (.cons rfl (.cons rfl .nil))))
  · rintro hf
    refine Fw.gT (d := 22) rfl rfl ?_
    refine Fw.s (Fw.val_not rfl) rfl ?_
    refine Fw.s (Fw.val_pickF rfl rfl) rfl ?_
    refine Fw.s (Fw.val_move rfl) rfl ?_
    refine Fw.gF (d := 29) rfl rfl rfl rfl ?_
    refine Fw.gF (d := 29) rfl rfl rfl rfl ?_
    refine Fw.gF (d := 29) rfl rfl rfl rfl ?_
    refine Fw.s (Fw.val_pickT rfl rfl) rfl ?_
    refine Fw.s (Fw.val_move rfl) rfl ?_
    refine Fw.gF (d := 34) rfl rfl rfl rfl ?_
    refine Fw.gF (d := 34) rfl rfl rfl rfl ?_
    refine Fw.gF (d := 34) rfl rfl rfl rfl ?_
    refine Fw.gF (d := 34) rfl rfl rfl rfl ?_
    refine Fw.gF (d := 34) rfl rfl rfl rfl ?_
    refine Fw.s (Fw.val_pickT rfl rfl) rfl ?_
    refine Fw.s (Fw.val_move rfl) rfl ?_
    refine Fw.gF (d := 41) rfl rfl rfl rfl ?_
    refine Fw.gF (d := 41) rfl rfl rfl rfl ?_
    refine Fw.gF (d := 41) rfl rfl rfl rfl ?_
    refine Fw.s (Fw.val_pickT rfl rfl) rfl ?_
    refine Fw.nil ?_
    refine hK4 _ _ (Fw.FC.sub (f' := [(45, _), (7, _), (5, _), (3, _), (1, _)]) (.cons rfl (.cons rfl (.cons rfl (.cons rfl (.cons rfl .nil))))) ?_)
    refine Fw.condT rfl ?_
    refine Fw.seq fun _ hK46 => ?_
    refine Fw.region ?_
    refine Fw.call cf12 rfl rfl (lawake_any _) ?_
    rintro e_ w35 ⟨rfl, hb⟩
    refine ⟨_, rfl, ?_⟩
    replace Hn := Hn.low hb
    replace Hx := Hx.low hb
    replace HGb := HGb.trans (hb.mono HGb.size)
    replace HB := HB.trans (hb.mono HB.size)
    clear hb
    refine Fw.s (Fw.val_assign rfl) rfl ?_
    refine Fw.nil ?_
    refine hK46 _ _ ?_
    refine Fw.ret ?_
    refine Fw.X_ret ?_
    refine Fw.ret_ [.tmp 6] [_] Try.results7 (.tmp rfl .nil) ?_
    exact ⟨rfl, HB⟩

end Go.Proofs.Ytenljoccfjlncaa
