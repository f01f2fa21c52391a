/- Layer 9: the laws Triangle, Monotonic. -/
import Derived.Test.YtenljoccfjlncaaRgM
import Derived.Test.YtenljoccfjlncaaRgP
namespace Go.Proofs.Ytenljoccfjlncaa
set_option linter.unusedSimpArgs false
set_option linter.unusedVariables false
open Go.RowKit

namespace Fw
theorem val_indexA {P : Program} {n : Nat} {f : Fr} {C : World → Prop} {t ty : TypeId} {x y : Operand} {e : TypeId} {len m : Nat} {cs : Array Value} {v : Value} {k : IntKind} {i : Int} (ht : P.underlying t = some (.array len e)) (hs : SizeT P e 1) (hsc : ScalT P e) (hx : ev f x = some (.agg cs)) (hi : ev f y = some (.int k i)) (hm : i = (m : Nat)) (hlt : m < len) (hv : cs[m]? = some v) :
    Val P n f C (.index t x y) ty v := fun _ _ _ _ a w hh _ => by
  subst hm
  unfold execOp; simp only [hh.eval hx, hh.eval hi]
  simp [Instr.index, asIntOf, run_underlying ht, hlt, hs w, part, hsc w, hv]
end Fw
theorem arr3 (a b c : Int) {k : Nat} (h : k < 3) : (#[.int .i64 a, .int .i64 b, .int .i64 c] : Array Value)[k]? = some (.int .i64 (([a, b, c] : List Int).getD k 0)) := by
  rcases k with _ | _ | _ | k
  · rfl
  · rfl
  · rfl
  · omega
theorem from2_any (w : World) (g : Nat) (N : Nat) (E : List Rg.Ed) (hG : Rg.GAt w g N E) (hN : N ≤ 12) (hEl : E.length ≤ 65536) (hEO : Rg.EOk N E) (n : Nat) (A : Option Addr) (ts : List Int) (c : Nat) (hn : ts.length = n) (h : Rd w A (ts.map (.int .i64))) (n' : Nat) (An : Option Addr) (ends : List Int) (cn : Nat) (hnl : n' ≤ 65536) (hn' : ends.length = n') (hen : Rd w An (ends.map (.int .i64))) : Calls Try.prog 15 #[.pointer (some ⟨g, 0, none⟩), .slice A n c, .slice An n' cn] w fun e_ w' => ∃ A' c' dl, e_ = .returned (.slice A' N c') ∧ w'.ownsRow w.heap.size 2 1 (.slice A' N c') N (dl.map (.int .i64)) ∧ dl.length = N ∧ Sp.IsDist (Rg.arcT N E ts true) 1048576 (fun v => (v : Int) ∈ ends) (Sp.ix dl) ∧ Below w.heap.size w w' := by
  subst hn hn'
  exact from_any w g N E hG hN hEl hEO A ts c h An ends cn hnl hen
set_option maxRecDepth 100000 in
set_option maxHeartbeats 1000000 in
theorem ltri_no (w : World) (N : Int) (R : List Rg.Re) (Ae : Option Addr) (ce : Nat) (hR : Rd w Ae (R.flatMap Rg.Re.cells)) (hno : ¬ Rg.Right N R) (A : Option Addr) (ts : List Int) (c : Nat) (h : Rd w A (ts.map (.int .i64))) (a b c_ : Int) : Calls Try.prog 10 #[.agg #[.int .i64 N, .slice Ae R.length ce], .slice A ts.length c, .agg #[.int .i64 a, .int .i64 b, .int .i64 c_]] w fun e_ w' => e_ = .returned (.bool true) ∧ Below w.heap.size w w' := by
  refine Fw.calls Try.func10 rfl Try.ntmps10 rfl ?_
  have HB := Below.refl (w.heap.size) w
  refine Fw.seq fun _ hK1 => ?_
  refine Fw.region ?_
  refine Fw.box rfl rfl ?_
  intro w1 gn egn Hn hb
  have lgn : w.heap.size ≤ gn := by have := HB.size; omega
  replace HB := HB.trans (hb.mono HB.size)
  clear hb
  clear egn
  refine Fw.box rfl rfl ?_
  intro w2 gx egx Hx hb
  have n_gn_gx : gn < gx := by have := Hn.lt; omega
  have lgx : w.heap.size ≤ gx := by have := HB.size; omega
  replace Hn := Hn.low hb
  replace HB := HB.trans (hb.mono HB.size)
  clear hb
  clear egx
  refine Fw.s (Fw.val_assign rfl) rfl ?_
  refine Fw.nil ?_
  refine hK1 _ _ ?_
  refine Fw.seq fun _ hK2 => ?_
  refine Fw.region ?_
  refine Fw.ldA ag24 rfl (Fw.rdBlk Hn) rfl rfl ?_
  refine Fw.call cf11 rfl rfl (netNo_any _ N R Ae ce (hR.low HB) hno) ?_
  rintro e_ w3 ⟨rfl, hb⟩
  refine ⟨_, rfl, ?_⟩
  replace Hn := Hn.low hb
  replace Hx := Hx.low hb
  replace HB := HB.trans (hb.mono HB.size)
  clear hb
  refine Fw.s (Fw.val_assign rfl) rfl ?_
  refine Fw.nil ?_
  refine hK2 _ _ ?_
  refine Fw.seq fun _ hK3 => ?_
  refine Fw.seq fun _ hK4 => ?_
  refine Fw.region ?_
  refine Fw.call cf12 rfl rfl (lawake_any _) ?_
  rintro e_ w4 ⟨rfl, hb⟩
  refine ⟨_, rfl, ?_⟩
  replace Hn := Hn.low hb
  replace Hx := Hx.low hb
  replace HB := HB.trans (hb.mono HB.size)
  clear hb
  refine Fw.s (Fw.val_not rfl) rfl ?_
  refine Fw.s (Fw.val_move rfl) rfl ?_
  refine Fw.gT (d := 20) rfl rfl ?_
  refine Fw.s (Fw.val_move rfl) rfl ?_
  refine Fw.gT (d := 20) rfl rfl ?_
  refine Fw.s (Fw.val_bin rfl rfl (Fw.b_nilP Try.underlying27)) rfl ?_
  refine Fw.s (Fw.val_pickF rfl rfl) rfl ?_
  refine Fw.s (Fw.val_move rfl) rfl ?_
  refine Fw.gF (d := 24) rfl rfl rfl rfl ?_
  refine Fw.gF (d := 24) rfl rfl rfl rfl ?_
  refine Fw.gF (d := 24) rfl rfl rfl rfl ?_
  refine Fw.s (Fw.val_pickT rfl rfl) rfl ?_
  refine Fw.nil ?_
  refine hK4 _ _ (Fw.FC.sub (f' := [(28, _), (7, _), (5, _), (3, _), (1, _)]) (.cons rfl (.cons rfl (.cons rfl (.cons rfl (.cons rfl .nil))))) ?_)
  refine Fw.condT rfl ?_
  refine Fw.seq fun _ hK5 => ?_
  refine Fw.region ?_
  refine Fw.call cf12 rfl rfl (lawake_any _) ?_
  rintro e_ w5 ⟨rfl, hb⟩
  refine ⟨_, rfl, ?_⟩
  replace Hn := Hn.low hb
  replace Hx := Hx.low hb
  replace HB := HB.trans (hb.mono HB.size)
  clear hb
  refine Fw.s (Fw.val_assign rfl) rfl ?_
  refine Fw.nil ?_
  refine hK5 _ _ ?_
  refine Fw.ret ?_
  refine Fw.X_ret ?_
  refine Fw.ret_ [.tmp 6] [_] Try.results10 (.tmp rfl .nil) ?_
  exact ⟨rfl, HB⟩

set_option maxRecDepth 100000 in
set_option maxHeartbeats 4000000 in
theorem ltri_yes (w : World) (N : Nat) (E : List Rg.Ed) (Ae : Option Addr) (ce : Nat) (hE : Rd w Ae (E.flatMap Rg.Ed.cells)) (hn : Rg.Net N E) (A : Option Addr) (ts : List Int) (c : Nat) (h : Rd w A (ts.map (.int .i64))) (a b c_ : Int) : Calls Try.prog 10 #[.agg #[.int .i64 (N : Int), .slice Ae E.length ce], .slice A ts.length c, .agg #[.int .i64 a, .int .i64 b, .int .i64 c_]] w fun e_ w' => e_ = .returned (.bool true) ∧ Below w.heap.size w w' := by
  have hn1 := hn.n
  have hn2 := hn.e
  refine Fw.calls Try.func10 rfl Try.ntmps10 rfl ?_
  have HB := Below.refl (w.heap.size) w
  refine Fw.seq fun _ hK1 => ?_
  refine Fw.region ?_
  refine Fw.box rfl rfl ?_
  intro w1 gn egn Hn hb
  have lgn : w.heap.size ≤ gn := by have := HB.size; omega
  replace HB := HB.trans (hb.mono HB.size)
  clear hb
  clear egn
  refine Fw.box rfl rfl ?_
  intro w2 gx egx Hx hb
  have n_gn_gx : gn < gx := by have := Hn.lt; omega
  have lgx : w.heap.size ≤ gx := by have := HB.size; omega
  replace Hn := Hn.low hb
  replace HB := HB.trans (hb.mono HB.size)
  clear hb
  clear egx
  refine Fw.s (Fw.val_assign rfl) rfl ?_
  refine Fw.nil ?_
  refine hK1 _ _ ?_
  refine Fw.seq fun _ hK2 => ?_
  refine Fw.region ?_
  refine Fw.ldA ag24 rfl (Fw.rdBlk Hn) rfl rfl ?_
  refine Fw.call cf11 rfl rfl (net_any _ N E Ae ce (hE.low HB) hn) ?_
  rintro e_ w3 ⟨g, rfl, HG, hb⟩
  refine ⟨_, rfl, ?_⟩
  replace Hn := Hn.low hb
  replace Hx := Hx.low hb
  replace HB := HB.trans (hb.mono HB.size)
  clear hb
  refine Fw.s (Fw.val_assign rfl) rfl ?_
  refine Fw.nil ?_
  refine hK2 _ _ ?_
  refine Fw.seq fun _ hK3 => ?_
  refine Fw.seq fun _ hK4 => ?_
  refine Fw.region ?_
  refine Fw.call cf12 rfl rfl (lawake_any _) ?_
  rintro e_ w4 ⟨rfl, hb⟩
  refine ⟨_, rfl, ?_⟩
  replace Hn := Hn.low hb
  replace Hx := Hx.low hb
  replace HG := HG.low hb
  replace HB := HB.trans (hb.mono HB.size)
  clear hb
  refine Fw.s (Fw.val_not rfl) rfl ?_
  refine Fw.s (Fw.val_move rfl) rfl ?_
  refine Fw.gT (d := 20) rfl rfl ?_
  refine Fw.s (Fw.val_move rfl) rfl ?_
  refine Fw.gT (d := 20) rfl rfl ?_
  refine Fw.s (Fw.val_bin rfl rfl (Fw.b_nilP Try.underlying27)) rfl ?_
  refine Fw.s (Fw.val_pickF rfl rfl) rfl ?_
  refine Fw.s (Fw.val_move rfl) rfl ?_
  refine Fw.gT (d := 24) rfl rfl ?_
  refine Fw.s (Fw.val_move rfl) rfl ?_
  refine Fw.gT (d := 24) rfl rfl ?_
  refine Fw.call cf13 rfl rfl (lfew_any _ A ts.length c none 0 0) ?_
  rintro e_ _ ⟨rfl, rfl⟩
  refine ⟨_, rfl, ?_⟩
  refine Fw.b2 ?_ ?_
  · rintro hf
    refine Fw.gT (d := 24) rfl rfl ?_
    refine Fw.s (Fw.val_not rfl) rfl ?_
    refine Fw.s (Fw.val_pickF rfl rfl) rfl ?_
    refine Fw.nil ?_
    refine hK4 _ _ (Fw.FC.sub (f' := [(28, _), (7, _), (5, _), (3, _), (1, _)]) (.cons rfl (.cons rfl (.cons rfl (.cons rfl (.cons rfl .nil))))) ?_)
    refine Fw.condF rfl ?_
    refine Fw.skip ?_
    refine hK3 _ _ ?_
    refine Fw.seq fun _ hK5 => ?_
    refine Fw.seq fun _ hK6 => ?_
    have hf := of_decide_eq_true hf
    refine Fw.region ?_
    refine Fw.ldA ag57 rfl (Fw.rdBlk Hx) rfl rfl ?_
    refine Fw.s (Fw.val_move rfl) rfl ?_
    refine Fw.nil ?_
    refine hK6 _ _ ?_
    refine Fw.block ?_
    refine Fw.loop (fun m_ f_ W_ => ∃ (k : Nat), m_ = 3 - k ∧ k ≤ 3 ∧ (∀ j, j < k → 0 ≤ ([a, b, c_] : List Int).getD j 0 ∧ ([a, b, c_] : List Int).getD j 0 < (N : Int)) ∧ Blk W_ gn 24 #[.int .i64 (N : Int), .slice Ae E.length ce] ∧ Blk W_ gx 57 #[.int .i64 a, .int .i64 b, .int .i64 c_] ∧ Rg.GAt W_ g N E ∧ Below (w.heap.size) w W_ ∧ f_ = [(31, .int .i64 k), (30, .agg #[.int .i64 a, .int .i64 b, .int .i64 c_]), (7, .pointer (some ⟨g, 0, none⟩)), (5, .pointer (some ⟨gx, 0, none⟩)), (3, .pointer (some ⟨gn, 0, none⟩)), (1, .slice A ts.length c)]) ⟨_, _, ⟨0, rfl, Nat.zero_le _, (fun j hj => absurd hj (Nat.not_lt_zero j)), Hn, Hx, HG, HB, rfl⟩, (.cons rfl (.cons rfl (.cons rfl (.cons rfl (.cons rfl (.cons rfl .nil))))))⟩ ?_
    clear Hn Hx HG HB
    rintro m7_ _ w5 ⟨k, hm7_, hkn, hin, Hn, Hx, HG, HB, rfl⟩
    refine Fw.seq fun _ hK8 => ?_
    refine Fw.region ?_
    refine Fw.s2 (Fw.val_bin rfl rfl Fw.b_lss) rfl ?_ ?_
    · rintro hk1
      refine Fw.nil ?_
      refine hK8 _ _ ?_
      refine Fw.seq fun _ hK10 => ?_
      refine Fw.condT rfl ?_
      refine Fw.skip ?_
      refine hK10 _ _ ?_
      refine Fw.seq fun _ hK11 => ?_
      refine Fw.block ?_
      refine Fw.seq fun _ hK12 => ?_
      have hk3 : k < 3 := by omega
      refine Fw.region ?_
      refine Fw.s (Fw.val_indexA (m := k) Try.underlying57 sz3 sc3 rfl rfl rfl hk3 (arr3 a b c_ hk3)) rfl ?_
      refine Fw.s (Fw.val_assign rfl) rfl ?_
      refine Fw.nil ?_
      refine hK12 _ _ ?_
      refine Fw.seq fun _ hK13 => ?_
      refine Fw.region ?_
      refine Fw.s (Fw.val_move rfl) rfl ?_
      refine Fw.s2 (Fw.val_bin rfl rfl Fw.b_lss) rfl ?_ ?_
      · rintro hg1
        refine Fw.s (Fw.val_move rfl) rfl ?_
        refine Fw.gF (d := 36) rfl rfl rfl rfl ?_
        refine Fw.gF (d := 36) rfl rfl rfl rfl ?_
        refine Fw.gF (d := 36) rfl rfl rfl rfl ?_
        refine Fw.gF (d := 36) rfl rfl rfl rfl ?_
        refine Fw.s (Fw.val_pickT rfl rfl) rfl ?_
        refine Fw.nil ?_
        refine hK13 _ _ ?_
        refine Fw.condT rfl ?_
        refine Fw.seq fun _ hK15 => ?_
        refine Fw.region ?_
        refine Fw.s (Fw.val_assign rfl) rfl ?_
        refine Fw.nil ?_
        refine hK15 _ _ (Fw.FC.sub (f' := [(6, _)]) (.cons rfl .nil) ?_)
        refine Fw.ret ?_
        refine Fw.X_blockR ?_
        refine Fw.X_ret ?_
        refine Fw.X_ret ?_
        refine Fw.X_blockR ?_
        refine Fw.X_ret ?_
        refine Fw.ret_ [.tmp 6] [_] Try.results10 (.tmp rfl .nil) ?_
        exact ⟨rfl, HB⟩
      · rintro hg1
        refine Fw.s (Fw.val_move rfl) rfl ?_
        refine Fw.gT (d := 36) rfl rfl ?_
        refine Fw.s (Fw.val_move rfl) rfl ?_
        refine Fw.gT (d := 36) rfl rfl ?_
        refine Fw.s (Fw.val_fieldAddr fl24_0 rfl rfl) rfl ?_
        refine Fw.gT (d := 36) rfl rfl ?_
        refine Fw.ld sc3 rfl (Hn.cell 0) rfl ?_
        refine Fw.gT (d := 36) rfl rfl ?_
        refine Fw.s2 (Fw.val_bin rfl rfl Fw.b_geq) rfl ?_ ?_
        · rintro hg2
          refine Fw.s (Fw.val_pickF rfl rfl) rfl ?_
          refine Fw.nil ?_
          refine hK13 _ _ ?_
          refine Fw.condT rfl ?_
          refine Fw.seq fun _ hK17 => ?_
          refine Fw.region ?_
          refine Fw.s (Fw.val_assign rfl) rfl ?_
          refine Fw.nil ?_
          refine hK17 _ _ (Fw.FC.sub (f' := [(6, _)]) (.cons rfl .nil) ?_)
          refine Fw.ret ?_
          refine Fw.X_blockR ?_
          refine Fw.X_ret ?_
          refine Fw.X_ret ?_
          refine Fw.X_blockR ?_
          refine Fw.X_ret ?_
          refine Fw.ret_ [.tmp 6] [_] Try.results10 (.tmp rfl .nil) ?_
          exact ⟨rfl, HB⟩
        · rintro hg2
          refine Fw.s (Fw.val_pickF rfl rfl) rfl ?_
          refine Fw.nil ?_
          refine hK13 _ _ ?_
          refine Fw.condF rfl ?_
          refine Fw.skip ?_
          refine Fw.X_blockN ?_
          refine hK11 _ _ (Fw.FC.sub (f' := [(40, _), (39, _), (38, _), (37, _), (31, _), (30, _), (7, _), (5, _), (3, _), (1, _)]) (.cons rfl (.cons rfl (.cons rfl (.cons rfl (.cons rfl (.cons rfl (.cons rfl (.cons rfl (.cons rfl (.cons rfl .nil)))))))))) ?_)
          refine Fw.region ?_
          refine Fw.s (Fw.val_bin rfl rfl (Fw.b_add (Fw.i64_ok (by omega)))) rfl ?_
          refine Fw.s (Fw.val_move rfl) rfl ?_
          refine Fw.nil ?_
          refine Fw.roundEnd _ _ (by omega) ⟨k + 1, rfl, by omega, fun j hj => by
            by_cases e : j < k
            · exact hin j e
            · obtain rfl : j = k := by omega
              exact ⟨by omega, by omega⟩, Hn, Hx, HG, HB, rfl⟩ (.cons rfl (.cons rfl (.cons rfl (.cons rfl (.cons rfl (.cons rfl .nil))))))
    · rintro hk1
      refine Fw.nil ?_
      refine hK8 _ _ ?_
      refine Fw.seq fun _ hK18 => ?_
      refine Fw.condF rfl ?_
      refine Fw.exit ?_
      refine Fw.X_exit ?_
      refine Fw.X_exit ?_
      refine Fw.X_block ?_
      refine hK5 _ _ ?_
      have h0 : 0 ≤ a ∧ a < (N : Int) := hin 0 (by omega)
      have h1 : 0 ≤ b ∧ b < (N : Int) := hin 1 (by omega)
      have h2 : 0 ≤ c_ ∧ c_ < (N : Int) := hin 2 (by omega)
      clear hin
      obtain ⟨x, rfl⟩ : ∃ x : Nat, a = x := ⟨a.toNat, by omega⟩
      obtain ⟨y, rfl⟩ : ∃ y : Nat, b = y := ⟨b.toNat, by omega⟩
      obtain ⟨z, rfl⟩ : ∃ z : Nat, c_ = z := ⟨c_.toNat, by omega⟩
      have hxN : x < N := by omega
      have hyN : y < N := by omega
      have hzN : z < N := by omega
      obtain ⟨D, hD⟩ := Rg.dist_ex ts hn.ok (by omega) hzN
      clear h0 h1 h2
      refine Fw.seq_cutE (α := Option Addr × Nat × List Int × Option Addr × Nat × List Int) (fun x_ => match x_ with | ⟨A1, c1, d1, A2, c2, d2⟩ => [(1, .slice A ts.length c), (3, .pointer (some ⟨gn, 0, none⟩)), (5, .pointer (some ⟨gx, 0, none⟩)), (7, .pointer (some ⟨g, 0, none⟩)), (10, .slice A1 N c1), (11, .slice A2 N c2)]) (fun x_ W_ => match x_ with | ⟨A1, c1, d1, A2, c2, d2⟩ => Blk W_ gn 24 #[.int .i64 (N : Int), .slice Ae E.length ce] ∧ Blk W_ gx 57 #[.int .i64 (x : Int), .int .i64 (y : Int), .int .i64 (z : Int)] ∧ Rg.GAt W_ g N E ∧ Rd W_ A1 (d1.map (.int .i64)) ∧ Rd W_ A2 (d2.map (.int .i64)) ∧ (d1.length = N ∧ Sp.IsDist (Rg.arcT N E ts true) 1048576 (· = x) (Sp.ix d1)) ∧ (d2.length = N ∧ Sp.IsDist (Rg.arcT N E ts true) 1048576 (· = y) (Sp.ix d2)) ∧ Below (w.heap.size) w W_) ?_ (fun _ hK19 => ?_)
      · rintro ⟨A1, c1, d1, A2, c2, d2⟩ w6 ⟨Hn, Hx, HG, H1, H2, hp1, hp2, HB⟩
        show Fw.FC _ _ _ _ _ [(1, .slice A ts.length c), (3, .pointer (some ⟨gn, 0, none⟩)), (5, .pointer (some ⟨gx, 0, none⟩)), (7, .pointer (some ⟨g, 0, none⟩)), (10, .slice A1 N c1), (11, .slice A2 N c2)] _
        refine Fw.seq_cutE (α := Option Addr × Nat × List Int) (fun x_ => match x_ with | ⟨A3, c3, d3⟩ => [(1, .slice A ts.length c), (3, .pointer (some ⟨gn, 0, none⟩)), (5, .pointer (some ⟨gx, 0, none⟩)), (7, .pointer (some ⟨g, 0, none⟩)), (10, .slice A1 N c1), (11, .slice A2 N c2), (12, .slice A3 N c3)]) (fun x_ W_ => match x_ with | ⟨A3, c3, d3⟩ => Blk W_ gn 24 #[.int .i64 (N : Int), .slice Ae E.length ce] ∧ Blk W_ gx 57 #[.int .i64 (x : Int), .int .i64 (y : Int), .int .i64 (z : Int)] ∧ Rg.GAt W_ g N E ∧ Rd W_ A1 (d1.map (.int .i64)) ∧ Rd W_ A2 (d2.map (.int .i64)) ∧ Rd W_ A3 (d3.map (.int .i64)) ∧ (d3.length = N ∧ Sp.IsDist (Rg.arcT N E ts false) 1048576 (· = z) (Sp.ix d3)) ∧ Below (w.heap.size) w W_) ?_ (fun _ hK20 => ?_)
        · rintro ⟨A3, c3, d3⟩ w7 ⟨Hn, Hx, HG, H1, H2, H3, hp3, HB⟩
          show Fw.FC _ _ _ _ _ [(1, .slice A ts.length c), (3, .pointer (some ⟨gn, 0, none⟩)), (5, .pointer (some ⟨gx, 0, none⟩)), (7, .pointer (some ⟨g, 0, none⟩)), (10, .slice A1 N c1), (11, .slice A2 N c2), (12, .slice A3 N c3)] _
          refine Fw.seq fun _ hK21 => ?_
          refine Fw.seq fun _ hK22 => ?_
          refine Fw.region ?_
          refine Fw.s (Fw.val_move rfl) rfl ?_
          refine Fw.s (Fw.val_len Try.underlying25 rfl) rfl ?_
          refine Fw.s (Fw.val_fieldAddr fl24_0 rfl rfl) rfl ?_
          refine Fw.ld sc3 rfl (Hn.cell 0) rfl ?_
          refine Fw.s (Fw.Val.F (Fw.val_bin rfl rfl Fw.b_neq) (by exact fun h_ => h_ rfl)) rfl ?_
          refine Fw.s (Fw.val_move rfl) rfl ?_
          refine Fw.gT (d := 69) rfl rfl ?_
          refine Fw.s (Fw.val_move rfl) rfl ?_
          refine Fw.gT (d := 69) rfl rfl ?_
          refine Fw.s (Fw.val_len Try.underlying25 rfl) rfl ?_
          refine Fw.gT (d := 69) rfl rfl ?_
          refine Fw.s (Fw.val_fieldAddr fl24_0 rfl rfl) rfl ?_
          refine Fw.gT (d := 69) rfl rfl ?_
          refine Fw.ld sc3 rfl (Hn.cell 0) rfl ?_
          refine Fw.gT (d := 69) rfl rfl ?_
          refine Fw.s (Fw.Val.F (Fw.val_bin rfl rfl Fw.b_neq) (by exact fun h_ => h_ rfl)) rfl ?_
          refine Fw.s (Fw.val_pickF rfl rfl) rfl ?_
          refine Fw.s (Fw.val_move rfl) rfl ?_
          refine Fw.gT (d := 76) rfl rfl ?_
          refine Fw.s (Fw.val_move rfl) rfl ?_
          refine Fw.gT (d := 76) rfl rfl ?_
          refine Fw.s (Fw.val_len Try.underlying25 rfl) rfl ?_
          refine Fw.gT (d := 76) rfl rfl ?_
          refine Fw.s (Fw.val_fieldAddr fl24_0 rfl rfl) rfl ?_
          refine Fw.gT (d := 76) rfl rfl ?_
          refine Fw.ld sc3 rfl (Hn.cell 0) rfl ?_
          refine Fw.gT (d := 76) rfl rfl ?_
          refine Fw.s (Fw.Val.F (Fw.val_bin rfl rfl Fw.b_neq) (by exact fun h_ => h_ rfl)) rfl ?_
          refine Fw.s (Fw.val_pickF rfl rfl) rfl ?_
          refine Fw.nil ?_
          refine hK22 _ _ (Fw.FC.sub (f' := [(82, _), (1, _), (5, _), (7, _), (10, _), (11, _), (12, _)]) (.cons rfl (.cons rfl (.cons rfl (.cons rfl (.cons rfl (.cons rfl (.cons rfl .nil))))))) ?_)
          refine Fw.condF rfl ?_
          refine Fw.skip ?_
          refine hK21 _ _ ?_
          refine Fw.seq fun _ hK23 => ?_
          refine Fw.regionH (by kernel_rfl) ?_
          have R_Hn := Hn
          have R_Hx := Hx
          have R_H1 := H1
          have R_H2 := H2
          have R_H3 := H3
          have R_HB := HB
          intro w8 hb
          have HS := hb
          replace Hn := Hn.low hb
          replace Hx := Hx.low hb
          replace HG := HG.low hb
          replace H1 := H1.low hb
          replace H2 := H2.low hb
          replace H3 := H3.low hb
          replace HB := HB.trans (hb.mono HB.size)
          clear hb
          refine Fw.hTake 0 rfl rfl (by kernel_rfl) (by kernel_rfl) (by kernel_rfl) (Fw.yV (Fw.val_move rfl)) rfl ?_
          refine Fw.hTake 1 rfl rfl (by kernel_rfl) (by kernel_rfl) (by kernel_rfl) (Fw.yV (Fw.val_move rfl)) rfl ?_
          refine Fw.hTake 3 rfl rfl (by kernel_rfl) (by kernel_rfl) (by kernel_rfl) (Fw.yV (Fw.val_indexP (m := 0) Try.underlying57 sz3 rfl rfl rfl (by decide) rfl)) rfl ?_
          refine Fw.hTake 4 rfl rfl (by kernel_rfl) (by kernel_rfl) (by kernel_rfl) (Fw.yV (Fw.hLd sc3 rfl (R_Hx.cell 0))) rfl ?_
          refine Fw.hTake 5 rfl rfl (by kernel_rfl) (by kernel_rfl) (by kernel_rfl) (Fw.yV (Fw.val_indexP (m := 2) Try.underlying57 sz3 rfl rfl rfl (by decide) rfl)) rfl ?_
          refine Fw.hTake 6 rfl rfl (by kernel_rfl) (by kernel_rfl) (by kernel_rfl) (Fw.yV (Fw.hLd sc3 rfl (R_Hx.cell 2))) rfl ?_
          refine Fw.hAll1 2 (by kernel_rfl) ?_
          refine Fw.hOp 2 rfl ?_
          refine Fw.call cf16 rfl rfl (longs_any _ A ts c (h.low HB) (by omega)) ?_
          rintro e_ w9 ⟨AL4, cL4, rfl, HL4, hb⟩
          refine ⟨_, rfl, ?_⟩
          replace Hn := Hn.low hb
          replace Hx := Hx.low hb
          replace HG := HG.low hb
          replace H1 := H1.low hb
          replace H2 := H2.low hb
          replace H3 := H3.low hb
          replace HS := HS.trans (hb.mono HS.size)
          replace HB := HB.trans (hb.mono HB.size)
          clear hb
          refine Fw.hNext HS ?_
          refine Fw.hAll1 7 (by kernel_rfl) ?_
          refine Fw.hOp 7 rfl ?_
          refine Fw.call cf19 rfl rfl (path_any _ g N E HG hn.ok (by omega) (by omega) AL4 ts cL4 (Rd.of_own HL4) x z hxN hzN D hD) ?_
          rintro e_ w10 ⟨AP, cP, l, rfl, HP, hl1, hl2, hb⟩
          refine ⟨_, rfl, ?_⟩
          replace Hn := Hn.low hb
          replace Hx := Hx.low hb
          replace HG := HG.low hb
          replace H1 := H1.low hb
          replace H2 := H2.low hb
          replace H3 := H3.low hb
          replace HS := HS.trans (hb.mono HS.size)
          replace HL4 := own_below HL4 hb (Nat.le_refl _)
          replace HB := HB.trans (hb.mono HB.size)
          clear hb
          clear HP hl1 hl2
          refine Fw.hNext HS ?_
          refine Fw.hTake 8 rfl rfl (by kernel_rfl) (by kernel_rfl) (by kernel_rfl) (Fw.yV (Fw.val_move rfl)) rfl ?_
          refine Fw.hTake 9 rfl rfl (by kernel_rfl) (by kernel_rfl) (by kernel_rfl) (Fw.yV (Fw.val_extract rfl rfl)) rfl ?_
          refine Fw.hTake 10 rfl rfl (by kernel_rfl) (by kernel_rfl) (by kernel_rfl) (Fw.yV (Fw.val_extract rfl rfl)) rfl ?_
          refine Fw.hTake 11 rfl rfl (by kernel_rfl) (by kernel_rfl) (by kernel_rfl) (Fw.yV (Fw.val_extract rfl rfl)) rfl ?_
          refine Fw.hTake 12 rfl rfl (by kernel_rfl) (by kernel_rfl) (by kernel_rfl) (Fw.yV (Fw.val_assign rfl)) rfl ?_
          refine Fw.hTake 13 rfl rfl (by kernel_rfl) (by kernel_rfl) (by kernel_rfl) (Fw.yV (Fw.val_assign rfl)) rfl ?_
          refine Fw.hTake 14 rfl rfl (by kernel_rfl) (by kernel_rfl) (by kernel_rfl) (Fw.yV (Fw.val_assign rfl)) rfl ?_
          refine Fw.hDone (by kernel_rfl) ?_
          refine hK23 _ _ (Fw.FC.sub (f' := [(15, _), (14, _), (5, _), (10, _), (11, _), (12, _)]) (.cons rfl (.cons rfl (.cons rfl (.cons rfl (.cons rfl (.cons rfl .nil)))))) ?_)
          refine Fw.seq fun _ hK24 => ?_
          refine Fw.seq fun _ hK25 => ?_
          obtain ⟨hd1, ht1⟩ := hp1
          obtain ⟨hd2, ht2⟩ := hp2
          obtain ⟨hd3, ht3⟩ := hp3
          have hx1 : x < d1.length := by omega
          have hz1 : z < d1.length := by omega
          have hx3 : x < d3.length := by omega
          have hy1 : y < d1.length := by omega
          have hz2 : z < d2.length := by omega
          have e1 : d1[x] = 0 := by rw [← Sp.ix_get hx1]; exact ht1.up.zero x hxN rfl
          have e2 : d1[z] = d3[x] := by rw [← Sp.ix_get hz1, ← Sp.ix_get hx3]; exact Rg.to_from hn.ok (by omega) hxN hzN ht1 ht3
          have e3 : d3[x] = Sp.dOf D x := by rw [← Sp.ix_get hx3]; exact Rg.way_to hn.ok (by omega) hxN hzN hD ht3
          have e4 : Sp.dOf D x < 4611686018427387904 ↔ D x ≠ Sp.INF := Rg.dOf_lt hn.ok (by omega) hxN hzN hD
          obtain ⟨adC1, bC1_, oC1_, hAC1, haddC1, C1⟩ := Fw.rdAtM H1 x hx1
          obtain ⟨adC2, bC2_, oC2_, hAC2, haddC2, C2⟩ := Fw.rdAtM H1 z hz1
          obtain ⟨adC3, bC3_, oC3_, hAC3, haddC3, C3⟩ := Fw.rdAtM H3 x hx3
          refine Fw.regionQ (by kernel_rfl) (by kernel_rfl) ?_
          refine Fw.q (Fw.val_move rfl) rfl ?_
          refine Fw.q (Fw.val_indexP (m := 0) Try.underlying57 sz3 rfl rfl rfl (by decide) rfl) rfl ?_
          refine Fw.ldQ sc3 rfl (Hx.cell 0) rfl ?_
          refine Fw.q (Fw.val_indexR Try.underlying25 sz2 rfl hAC1 rfl rfl hxN haddC1) rfl ?_
          refine Fw.ldQ sc2 rfl (C1) rfl ?_
          refine Fw.q (Fw.Val.F (Fw.val_bin rfl rfl Fw.b_neq) (by omega)) rfl ?_
          refine Fw.q (Fw.val_move rfl) rfl ?_
          refine Fw.gTQ (d := 101) rfl rfl ?_
          refine Fw.q (Fw.val_move rfl) rfl ?_
          refine Fw.gTQ (d := 101) rfl rfl ?_
          refine Fw.q (Fw.val_indexP (m := 2) Try.underlying57 sz3 rfl rfl rfl (by decide) rfl) rfl ?_
          refine Fw.gTQ (d := 101) rfl rfl ?_
          refine Fw.ldQ sc3 rfl (Hx.cell 2) rfl ?_
          refine Fw.gTQ (d := 101) rfl rfl ?_
          refine Fw.q (Fw.val_indexR Try.underlying25 sz2 rfl hAC2 rfl rfl hzN haddC2) rfl ?_
          refine Fw.gTQ (d := 101) rfl rfl ?_
          refine Fw.ldQ sc2 rfl (C2) rfl ?_
          refine Fw.gTQ (d := 101) rfl rfl ?_
          refine Fw.q (Fw.val_move rfl) rfl ?_
          refine Fw.gTQ (d := 101) rfl rfl ?_
          refine Fw.q (Fw.val_indexP (m := 0) Try.underlying57 sz3 rfl rfl rfl (by decide) rfl) rfl ?_
          refine Fw.gTQ (d := 101) rfl rfl ?_
          refine Fw.ldQ sc3 rfl (Hx.cell 0) rfl ?_
          refine Fw.gTQ (d := 101) rfl rfl ?_
          refine Fw.q (Fw.val_indexR Try.underlying25 sz2 rfl hAC3 rfl rfl hxN haddC3) rfl ?_
          refine Fw.gTQ (d := 101) rfl rfl ?_
          refine Fw.ldQ sc2 rfl (C3) rfl ?_
          refine Fw.gTQ (d := 101) rfl rfl ?_
          refine Fw.q (Fw.Val.F (Fw.val_bin rfl rfl Fw.b_neq) (by omega)) rfl ?_
          refine Fw.q (Fw.val_pickF rfl rfl) rfl ?_
          refine Fw.q (Fw.val_move rfl) rfl ?_
          refine Fw.gTQ (d := 114) rfl rfl ?_
          refine Fw.q (Fw.val_move rfl) rfl ?_
          refine Fw.gTQ (d := 114) rfl rfl ?_
          refine Fw.q (Fw.val_move rfl) rfl ?_
          refine Fw.gTQ (d := 114) rfl rfl ?_
          refine Fw.q (Fw.val_indexP (m := 2) Try.underlying57 sz3 rfl rfl rfl (by decide) rfl) rfl ?_
          refine Fw.gTQ (d := 114) rfl rfl ?_
          refine Fw.ldQ sc3 rfl (Hx.cell 2) rfl ?_
          refine Fw.gTQ (d := 114) rfl rfl ?_
          refine Fw.q (Fw.val_indexR Try.underlying25 sz2 rfl hAC2 rfl rfl hzN haddC2) rfl ?_
          refine Fw.gTQ (d := 114) rfl rfl ?_
          refine Fw.ldQ sc2 rfl (C2) rfl ?_
          refine Fw.gTQ (d := 114) rfl rfl ?_
          refine Fw.q (Fw.val_bin rfl rfl Fw.b_lss) rfl ?_
          refine Fw.gTQ (d := 114) rfl rfl ?_
          refine Fw.q (Fw.Val.F (Fw.val_bin rfl rfl (Fw.b_neqB Try.underlying4)) (by exact fun h_ => h_ (decide_eq_decide.2 (by rw [e2, e3]; exact e4.symm)))) rfl ?_
          refine Fw.q (Fw.val_pickF rfl rfl) rfl ?_
          refine Fw.q (Fw.val_move rfl) rfl ?_
          refine Fw.gTQ (d := 124) rfl rfl ?_
          refine Fw.q (Fw.val_move rfl) rfl ?_
          refine Fw.gTQ (d := 124) rfl rfl ?_
          refine Fw.q (Fw.val_move rfl) rfl ?_
          refine Fw.b2Q ?_ ?_
          · rintro hok
            refine Fw.gTQ (d := 126) rfl rfl ?_
            refine Fw.q (Fw.val_move rfl) rfl ?_
            refine Fw.gTQ (d := 126) rfl rfl ?_
            refine Fw.q (Fw.val_move rfl) rfl ?_
            refine Fw.gTQ (d := 126) rfl rfl ?_
            refine Fw.q (Fw.val_indexP (m := 2) Try.underlying57 sz3 rfl rfl rfl (by decide) rfl) rfl ?_
            refine Fw.gTQ (d := 126) rfl rfl ?_
            refine Fw.ldQ sc3 rfl (Hx.cell 2) rfl ?_
            refine Fw.gTQ (d := 126) rfl rfl ?_
            refine Fw.q (Fw.val_indexR Try.underlying25 sz2 rfl hAC2 rfl rfl hzN haddC2) rfl ?_
            refine Fw.gTQ (d := 126) rfl rfl ?_
            refine Fw.ldQ sc2 rfl (C2) rfl ?_
            refine Fw.gTQ (d := 126) rfl rfl ?_
            refine Fw.q (Fw.Val.F (Fw.val_bin rfl rfl Fw.b_neq) (by exact fun h_ => h_ (by rw [if_neg (of_decide_eq_true hok), e2, e3]))) rfl ?_
            refine Fw.gTQ (d := 124) rfl rfl ?_
            refine Fw.q (Fw.val_pickT rfl rfl) rfl ?_
            refine Fw.q (Fw.val_pickF rfl rfl) rfl ?_
            refine Fw.nilQ ?_
            intro w11 hb
            clear C1
            clear C2
            clear C3
            replace Hn := Hn.low hb
            replace Hx := Hx.low hb
            replace HG := HG.low hb
            replace H1 := H1.low hb
            replace H2 := H2.low hb
            replace H3 := H3.low hb
            replace HL4 := own_below HL4 hb (Nat.le_refl _)
            replace HB := HB.trans (hb.mono HB.size)
            clear hb
            refine hK25 _ _ (Fw.FC.sub (f' := [(135, _), (5, _), (10, _), (11, _)]) (.cons rfl (.cons rfl (.cons rfl (.cons rfl .nil)))) ?_)
            refine Fw.condF rfl ?_
            refine Fw.skip ?_
            refine hK24 _ _ ?_
            refine Fw.seq fun _ hK31 => ?_
            have b4 := ht1.lo.pos y hyN
            have b5 := ht2.lo.pos z hzN
            rw [Sp.ix_get hy1] at b4
            rw [Sp.ix_get hz2] at b5
            have htr : d1[y] < Sp.INF → d2[z] < Sp.INF → d1[z] ≤ d1[y] + d2[z] := fun h1 h2 => by
              have := Rg.tri (Rg.arcT_ok (N := N) ts true hn.ok) (by show 2 * ((N : Int) * 1048576) < 4611686018427387904; omega) hxN hyN hzN ht1 ht2 (by rw [Sp.ix_get hy1]; exact h1) (by rw [Sp.ix_get hz2]; exact h2)
              rwa [Sp.ix_get hy1, Sp.ix_get hz1, Sp.ix_get hz2] at this
            have I : (Sp.INF : Int) = 4611686018427387904 := rfl
            have bN : d1[y] < Sp.INF → d1[y] ≤ 12582912 := fun h => by
              have := (ht1.bnd y hyN).resolve_left (by rw [Sp.ix_get hy1]; omega)
              rw [Sp.ix_get hy1] at this
              have this : d1[y] ≤ (N : Int) * 1048576 := this
              omega
            have bM : d2[z] < Sp.INF → d2[z] ≤ 12582912 := fun h => by
              have := (ht2.bnd z hzN).resolve_left (by rw [Sp.ix_get hz2]; omega)
              rw [Sp.ix_get hz2] at this
              have this : d2[z] ≤ (N : Int) * 1048576 := this
              omega
            obtain ⟨adC4, bC4_, oC4_, hAC4, haddC4, C4⟩ := Fw.rdAtM H1 y hy1
            obtain ⟨adC5, bC5_, oC5_, hAC5, haddC5, C5⟩ := Fw.rdAtM H2 z hz2
            obtain ⟨adC6, bC6_, oC6_, hAC6, haddC6, C6⟩ := Fw.rdAtM H1 z hz1
            refine Fw.regionQ (by kernel_rfl) (by kernel_rfl) ?_
            refine Fw.q (Fw.val_move rfl) rfl ?_
            refine Fw.q (Fw.val_indexP (m := 1) Try.underlying57 sz3 rfl rfl rfl (by decide) rfl) rfl ?_
            refine Fw.ldQ sc3 rfl (Hx.cell 1) rfl ?_
            refine Fw.q (Fw.val_indexR Try.underlying25 sz2 rfl hAC4 rfl rfl hyN haddC4) rfl ?_
            refine Fw.ldQ sc2 rfl (C4) rfl ?_
            refine Fw.q2 (Fw.val_bin rfl rfl Fw.b_geq) rfl ?_ ?_
            · rintro hg7
              refine Fw.q (Fw.val_move rfl) rfl ?_
              refine Fw.gFQ (d := 142) rfl rfl rfl rfl ?_
              refine Fw.gFQ (d := 142) rfl rfl rfl rfl ?_
              refine Fw.gFQ (d := 142) rfl rfl rfl rfl ?_
              refine Fw.gFQ (d := 142) rfl rfl rfl rfl ?_
              refine Fw.gFQ (d := 142) rfl rfl rfl rfl ?_
              refine Fw.gFQ (d := 142) rfl rfl rfl rfl ?_
              refine Fw.q (Fw.val_pickT rfl rfl) rfl ?_
              refine Fw.q (Fw.val_move rfl) rfl ?_
              refine Fw.gFQ (d := 150) rfl rfl rfl rfl ?_
              refine Fw.gFQ (d := 150) rfl rfl rfl rfl ?_
              refine Fw.gFQ (d := 150) rfl rfl rfl rfl ?_
              refine Fw.gFQ (d := 150) rfl rfl rfl rfl ?_
              refine Fw.gFQ (d := 150) rfl rfl rfl rfl ?_
              refine Fw.gFQ (d := 150) rfl rfl rfl rfl ?_
              refine Fw.gFQ (d := 150) rfl rfl rfl rfl ?_
              refine Fw.gFQ (d := 150) rfl rfl rfl rfl ?_
              refine Fw.gFQ (d := 150) rfl rfl rfl rfl ?_
              refine Fw.gFQ (d := 150) rfl rfl rfl rfl ?_
              refine Fw.gFQ (d := 150) rfl rfl rfl rfl ?_
              refine Fw.gFQ (d := 150) rfl rfl rfl rfl ?_
              refine Fw.gFQ (d := 150) rfl rfl rfl rfl ?_
              refine Fw.gFQ (d := 150) rfl rfl rfl rfl ?_
              refine Fw.gFQ (d := 150) rfl rfl rfl rfl ?_
              refine Fw.gFQ (d := 150) rfl rfl rfl rfl ?_
              refine Fw.gFQ (d := 150) rfl rfl rfl rfl ?_
              refine Fw.q (Fw.val_pickT rfl rfl) rfl ?_
              refine Fw.q (Fw.val_assign rfl) rfl ?_
              refine Fw.nilQ ?_
              intro w12 hb
              clear C4
              clear C5
              clear C6
              replace Hn := Hn.low hb
              replace Hx := Hx.low hb
              replace HG := HG.low hb
              replace H1 := H1.low hb
              replace H2 := H2.low hb
              replace H3 := H3.low hb
              replace HL4 := own_below HL4 hb (Nat.le_refl _)
              replace HB := HB.trans (hb.mono HB.size)
              clear hb
              refine hK31 _ _ (Fw.FC.sub (f' := [(6, _)]) (.cons rfl .nil) ?_)
              refine Fw.ret ?_
              refine Fw.ret_ [.tmp 6] [_] Try.results10 (.tmp rfl .nil) ?_
              exact ⟨rfl, HB⟩
            · rintro hg7
              refine Fw.q (Fw.val_move rfl) rfl ?_
              refine Fw.gTQ (d := 142) rfl rfl ?_
              refine Fw.q (Fw.val_move rfl) rfl ?_
              refine Fw.gTQ (d := 142) rfl rfl ?_
              refine Fw.q (Fw.val_indexP (m := 2) Try.underlying57 sz3 rfl rfl rfl (by decide) rfl) rfl ?_
              refine Fw.gTQ (d := 142) rfl rfl ?_
              refine Fw.ldQ sc3 rfl (Hx.cell 2) rfl ?_
              refine Fw.gTQ (d := 142) rfl rfl ?_
              refine Fw.q (Fw.val_indexR Try.underlying25 sz2 rfl hAC5 rfl rfl hzN haddC5) rfl ?_
              refine Fw.gTQ (d := 142) rfl rfl ?_
              refine Fw.ldQ sc2 rfl (C5) rfl ?_
              refine Fw.gTQ (d := 142) rfl rfl ?_
              refine Fw.q2 (Fw.val_bin rfl rfl Fw.b_geq) rfl ?_ ?_
              · rintro hg8
                refine Fw.q (Fw.val_pickF rfl rfl) rfl ?_
                refine Fw.q (Fw.val_move rfl) rfl ?_
                refine Fw.gFQ (d := 150) rfl rfl rfl rfl ?_
                refine Fw.gFQ (d := 150) rfl rfl rfl rfl ?_
                refine Fw.gFQ (d := 150) rfl rfl rfl rfl ?_
                refine Fw.gFQ (d := 150) rfl rfl rfl rfl ?_
                refine Fw.gFQ (d := 150) rfl rfl rfl rfl ?_
                refine Fw.gFQ (d := 150) rfl rfl rfl rfl ?_
                refine Fw.gFQ (d := 150) rfl rfl rfl rfl ?_
                refine Fw.gFQ (d := 150) rfl rfl rfl rfl ?_
                refine Fw.gFQ (d := 150) rfl rfl rfl rfl ?_
                refine Fw.gFQ (d := 150) rfl rfl rfl rfl ?_
                refine Fw.gFQ (d := 150) rfl rfl rfl rfl ?_
                refine Fw.gFQ (d := 150) rfl rfl rfl rfl ?_
                refine Fw.gFQ (d := 150) rfl rfl rfl rfl ?_
                refine Fw.gFQ (d := 150) rfl rfl rfl rfl ?_
                refine Fw.gFQ (d := 150) rfl rfl rfl rfl ?_
                refine Fw.gFQ (d := 150) rfl rfl rfl rfl ?_
                refine Fw.gFQ (d := 150) rfl rfl rfl rfl ?_
                refine Fw.q (Fw.val_pickT rfl rfl) rfl ?_
                refine Fw.q (Fw.val_assign rfl) rfl ?_
                refine Fw.nilQ ?_
                intro w13 hb
                clear C4
                clear C5
                clear C6
                replace Hn := Hn.low hb
                replace Hx := Hx.low hb
                replace HG := HG.low hb
                replace H1 := H1.low hb
                replace H2 := H2.low hb
                replace H3 := H3.low hb
                replace HL4 := own_below HL4 hb (Nat.le_refl _)
                replace HB := HB.trans (hb.mono HB.size)
                clear hb
                refine hK31 _ _ (Fw.FC.sub (f' := [(6, _)]) (.cons rfl .nil) ?_)
                refine Fw.ret ?_
                refine Fw.ret_ [.tmp 6] [_] Try.results10 (.tmp rfl .nil) ?_
                exact ⟨rfl, HB⟩
              · rintro hg8
                refine Fw.q (Fw.val_pickF rfl rfl) rfl ?_
                have b6 := bN (by omega)
                have b7 := bM (by omega)
                have b8 := htr (by omega) (by omega)
                refine Fw.q (Fw.val_move rfl) rfl ?_
                refine Fw.gTQ (d := 150) rfl rfl ?_
                refine Fw.q (Fw.val_move rfl) rfl ?_
                refine Fw.gTQ (d := 150) rfl rfl ?_
                refine Fw.q (Fw.val_indexP (m := 2) Try.underlying57 sz3 rfl rfl rfl (by decide) rfl) rfl ?_
                refine Fw.gTQ (d := 150) rfl rfl ?_
                refine Fw.ldQ sc3 rfl (Hx.cell 2) rfl ?_
                refine Fw.gTQ (d := 150) rfl rfl ?_
                refine Fw.q (Fw.val_indexR Try.underlying25 sz2 rfl hAC6 rfl rfl hzN haddC6) rfl ?_
                refine Fw.gTQ (d := 150) rfl rfl ?_
                refine Fw.ldQ sc2 rfl (C6) rfl ?_
                refine Fw.gTQ (d := 150) rfl rfl ?_
                refine Fw.q (Fw.val_move rfl) rfl ?_
                refine Fw.gTQ (d := 150) rfl rfl ?_
                refine Fw.q (Fw.val_indexP (m := 1) Try.underlying57 sz3 rfl rfl rfl (by decide) rfl) rfl ?_
                refine Fw.gTQ (d := 150) rfl rfl ?_
                refine Fw.ldQ sc3 rfl (Hx.cell 1) rfl ?_
                refine Fw.gTQ (d := 150) rfl rfl ?_
                refine Fw.q (Fw.val_indexR Try.underlying25 sz2 rfl hAC4 rfl rfl hyN haddC4) rfl ?_
                refine Fw.gTQ (d := 150) rfl rfl ?_
                refine Fw.ldQ sc2 rfl (C4) rfl ?_
                refine Fw.gTQ (d := 150) rfl rfl ?_
                refine Fw.q (Fw.val_move rfl) rfl ?_
                refine Fw.gTQ (d := 150) rfl rfl ?_
                refine Fw.q (Fw.val_indexP (m := 2) Try.underlying57 sz3 rfl rfl rfl (by decide) rfl) rfl ?_
                refine Fw.gTQ (d := 150) rfl rfl ?_
                refine Fw.ldQ sc3 rfl (Hx.cell 2) rfl ?_
                refine Fw.gTQ (d := 150) rfl rfl ?_
                refine Fw.q (Fw.val_indexR Try.underlying25 sz2 rfl hAC5 rfl rfl hzN haddC5) rfl ?_
                refine Fw.gTQ (d := 150) rfl rfl ?_
                refine Fw.ldQ sc2 rfl (C5) rfl ?_
                refine Fw.gTQ (d := 150) rfl rfl ?_
                refine Fw.q (Fw.val_bin rfl rfl (Fw.b_add (Fw.i64_ok (by omega)))) rfl ?_
                refine Fw.gTQ (d := 150) rfl rfl ?_
                refine Fw.q (Fw.Val.T (Fw.val_bin rfl rfl Fw.b_leq) (by omega)) rfl ?_
                refine Fw.q (Fw.val_pickF rfl rfl) rfl ?_
                refine Fw.q (Fw.val_assign rfl) rfl ?_
                refine Fw.nilQ ?_
                intro w14 hb
                clear C4
                clear C5
                clear C6
                replace Hn := Hn.low hb
                replace Hx := Hx.low hb
                replace HG := HG.low hb
                replace H1 := H1.low hb
                replace H2 := H2.low hb
                replace H3 := H3.low hb
                replace HL4 := own_below HL4 hb (Nat.le_refl _)
                replace HB := HB.trans (hb.mono HB.size)
                clear hb
                refine hK31 _ _ (Fw.FC.sub (f' := [(6, _)]) (.cons rfl .nil) ?_)
                refine Fw.ret ?_
                refine Fw.ret_ [.tmp 6] [_] Try.results10 (.tmp rfl .nil) ?_
                exact ⟨rfl, HB⟩
          · rintro hok
            refine Fw.gFQ (d := 126) rfl rfl rfl rfl ?_
            refine Fw.gFQ (d := 126) rfl rfl rfl rfl ?_
            refine Fw.gFQ (d := 126) rfl rfl rfl rfl ?_
            refine Fw.gFQ (d := 126) rfl rfl rfl rfl ?_
            refine Fw.gFQ (d := 126) rfl rfl rfl rfl ?_
            refine Fw.gFQ (d := 126) rfl rfl rfl rfl ?_
            refine Fw.gFQ (d := 126) rfl rfl rfl rfl ?_
            refine Fw.gTQ (d := 124) rfl rfl ?_
            refine Fw.q (Fw.val_pickF rfl rfl) rfl ?_
            refine Fw.q (Fw.val_pickF rfl rfl) rfl ?_
            refine Fw.nilQ ?_
            intro w15 hb
            clear C1
            clear C2
            clear C3
            replace Hn := Hn.low hb
            replace Hx := Hx.low hb
            replace HG := HG.low hb
            replace H1 := H1.low hb
            replace H2 := H2.low hb
            replace H3 := H3.low hb
            replace HL4 := own_below HL4 hb (Nat.le_refl _)
            replace HB := HB.trans (hb.mono HB.size)
            clear hb
            refine hK25 _ _ (Fw.FC.sub (f' := [(135, _), (5, _), (10, _), (11, _)]) (.cons rfl (.cons rfl (.cons rfl (.cons rfl .nil)))) ?_)
            refine Fw.condF rfl ?_
            refine Fw.skip ?_
            refine hK24 _ _ ?_
            refine Fw.seq fun _ hK39 => ?_
            have b4 := ht1.lo.pos y hyN
            have b5 := ht2.lo.pos z hzN
            rw [Sp.ix_get hy1] at b4
            rw [Sp.ix_get hz2] at b5
            have htr : d1[y] < Sp.INF → d2[z] < Sp.INF → d1[z] ≤ d1[y] + d2[z] := fun h1 h2 => by
              have := Rg.tri (Rg.arcT_ok (N := N) ts true hn.ok) (by show 2 * ((N : Int) * 1048576) < 4611686018427387904; omega) hxN hyN hzN ht1 ht2 (by rw [Sp.ix_get hy1]; exact h1) (by rw [Sp.ix_get hz2]; exact h2)
              rwa [Sp.ix_get hy1, Sp.ix_get hz1, Sp.ix_get hz2] at this
            have I : (Sp.INF : Int) = 4611686018427387904 := rfl
            have bN : d1[y] < Sp.INF → d1[y] ≤ 12582912 := fun h => by
              have := (ht1.bnd y hyN).resolve_left (by rw [Sp.ix_get hy1]; omega)
              rw [Sp.ix_get hy1] at this
              have this : d1[y] ≤ (N : Int) * 1048576 := this
              omega
            have bM : d2[z] < Sp.INF → d2[z] ≤ 12582912 := fun h => by
              have := (ht2.bnd z hzN).resolve_left (by rw [Sp.ix_get hz2]; omega)
              rw [Sp.ix_get hz2] at this
              have this : d2[z] ≤ (N : Int) * 1048576 := this
              omega
            obtain ⟨adC4, bC4_, oC4_, hAC4, haddC4, C4⟩ := Fw.rdAtM H1 y hy1
            obtain ⟨adC5, bC5_, oC5_, hAC5, haddC5, C5⟩ := Fw.rdAtM H2 z hz2
            obtain ⟨adC6, bC6_, oC6_, hAC6, haddC6, C6⟩ := Fw.rdAtM H1 z hz1
            refine Fw.regionQ (by kernel_rfl) (by kernel_rfl) ?_
            refine Fw.q (Fw.val_move rfl) rfl ?_
            refine Fw.q (Fw.val_indexP (m := 1) Try.underlying57 sz3 rfl rfl rfl (by decide) rfl) rfl ?_
            refine Fw.ldQ sc3 rfl (Hx.cell 1) rfl ?_
            refine Fw.q (Fw.val_indexR Try.underlying25 sz2 rfl hAC4 rfl rfl hyN haddC4) rfl ?_
            refine Fw.ldQ sc2 rfl (C4) rfl ?_
            refine Fw.q2 (Fw.val_bin rfl rfl Fw.b_geq) rfl ?_ ?_
            · rintro hg7
              refine Fw.q (Fw.val_move rfl) rfl ?_
              refine Fw.gFQ (d := 142) rfl rfl rfl rfl ?_
              refine Fw.gFQ (d := 142) rfl rfl rfl rfl ?_
              refine Fw.gFQ (d := 142) rfl rfl rfl rfl ?_
              refine Fw.gFQ (d := 142) rfl rfl rfl rfl ?_
              refine Fw.gFQ (d := 142) rfl rfl rfl rfl ?_
              refine Fw.gFQ (d := 142) rfl rfl rfl rfl ?_
              refine Fw.q (Fw.val_pickT rfl rfl) rfl ?_
              refine Fw.q (Fw.val_move rfl) rfl ?_
              refine Fw.gFQ (d := 150) rfl rfl rfl rfl ?_
              refine Fw.gFQ (d := 150) rfl rfl rfl rfl ?_
              refine Fw.gFQ (d := 150) rfl rfl rfl rfl ?_
              refine Fw.gFQ (d := 150) rfl rfl rfl rfl ?_
              refine Fw.gFQ (d := 150) rfl rfl rfl rfl ?_
              refine Fw.gFQ (d := 150) rfl rfl rfl rfl ?_
              refine Fw.gFQ (d := 150) rfl rfl rfl rfl ?_
              refine Fw.gFQ (d := 150) rfl rfl rfl rfl ?_
              refine Fw.gFQ (d := 150) rfl rfl rfl rfl ?_
              refine Fw.gFQ (d := 150) rfl rfl rfl rfl ?_
              refine Fw.gFQ (d := 150) rfl rfl rfl rfl ?_
              refine Fw.gFQ (d := 150) rfl rfl rfl rfl ?_
              refine Fw.gFQ (d := 150) rfl rfl rfl rfl ?_
              refine Fw.gFQ (d := 150) rfl rfl rfl rfl ?_
              refine Fw.gFQ (d := 150) rfl rfl rfl rfl ?_
              refine Fw.gFQ (d := 150) rfl rfl rfl rfl ?_
              refine Fw.gFQ (d := 150) rfl rfl rfl rfl ?_
              refine Fw.q (Fw.val_pickT rfl rfl) rfl ?_
              refine Fw.q (Fw.val_assign rfl) rfl ?_
              refine Fw.nilQ ?_
              intro w16 hb
              clear C4
              clear C5
              clear C6
              replace Hn := Hn.low hb
              replace Hx := Hx.low hb
              replace HG := HG.low hb
              replace H1 := H1.low hb
              replace H2 := H2.low hb
              replace H3 := H3.low hb
              replace HL4 := own_below HL4 hb (Nat.le_refl _)
              replace HB := HB.trans (hb.mono HB.size)
              clear hb
              refine hK39 _ _ (Fw.FC.sub (f' := [(6, _)]) (.cons rfl .nil) ?_)
              refine Fw.ret ?_
              refine Fw.ret_ [.tmp 6] [_] Try.results10 (.tmp rfl .nil) ?_
              exact ⟨rfl, HB⟩
            · rintro hg7
              refine Fw.q (Fw.val_move rfl) rfl ?_
              refine Fw.gTQ (d := 142) rfl rfl ?_
              refine Fw.q (Fw.val_move rfl) rfl ?_
              refine Fw.gTQ (d := 142) rfl rfl ?_
              refine Fw.q (Fw.val_indexP (m := 2) Try.underlying57 sz3 rfl rfl rfl (by decide) rfl) rfl ?_
              refine Fw.gTQ (d := 142) rfl rfl ?_
              refine Fw.ldQ sc3 rfl (Hx.cell 2) rfl ?_
              refine Fw.gTQ (d := 142) rfl rfl ?_
              refine Fw.q (Fw.val_indexR Try.underlying25 sz2 rfl hAC5 rfl rfl hzN haddC5) rfl ?_
              refine Fw.gTQ (d := 142) rfl rfl ?_
              refine Fw.ldQ sc2 rfl (C5) rfl ?_
              refine Fw.gTQ (d := 142) rfl rfl ?_
              refine Fw.q2 (Fw.val_bin rfl rfl Fw.b_geq) rfl ?_ ?_
              · rintro hg8
                refine Fw.q (Fw.val_pickF rfl rfl) rfl ?_
                refine Fw.q (Fw.val_move rfl) rfl ?_
                refine Fw.gFQ (d := 150) rfl rfl rfl rfl ?_
                refine Fw.gFQ (d := 150) rfl rfl rfl rfl ?_
                refine Fw.gFQ (d := 150) rfl rfl rfl rfl ?_
                refine Fw.gFQ (d := 150) rfl rfl rfl rfl ?_
                refine Fw.gFQ (d := 150) rfl rfl rfl rfl ?_
                refine Fw.gFQ (d := 150) rfl rfl rfl rfl ?_
                refine Fw.gFQ (d := 150) rfl rfl rfl rfl ?_
                refine Fw.gFQ (d := 150) rfl rfl rfl rfl ?_
                refine Fw.gFQ (d := 150) rfl rfl rfl rfl ?_
                refine Fw.gFQ (d := 150) rfl rfl rfl rfl ?_
                refine Fw.gFQ (d := 150) rfl rfl rfl rfl ?_
                refine Fw.gFQ (d := 150) rfl rfl rfl rfl ?_
                refine Fw.gFQ (d := 150) rfl rfl rfl rfl ?_
                refine Fw.gFQ (d := 150) rfl rfl rfl rfl ?_
                refine Fw.gFQ (d := 150) rfl rfl rfl rfl ?_
                refine Fw.gFQ (d := 150) rfl rfl rfl rfl ?_
                refine Fw.gFQ (d := 150) rfl rfl rfl rfl ?_
                refine Fw.q (Fw.val_pickT rfl rfl) rfl ?_
                refine Fw.q (Fw.val_assign rfl) rfl ?_
                refine Fw.nilQ ?_
                intro w17 hb
                clear C4
                clear C5
                clear C6
                replace Hn := Hn.low hb
                replace Hx := Hx.low hb
                replace HG := HG.low hb
                replace H1 := H1.low hb
                replace H2 := H2.low hb
                replace H3 := H3.low hb
                replace HL4 := own_below HL4 hb (Nat.le_refl _)
                replace HB := HB.trans (hb.mono HB.size)
                clear hb
                refine hK39 _ _ (Fw.FC.sub (f' := [(6, _)]) (.cons rfl .nil) ?_)
                refine Fw.ret ?_
                refine Fw.ret_ [.tmp 6] [_] Try.results10 (.tmp rfl .nil) ?_
                exact ⟨rfl, HB⟩
              · rintro hg8
                refine Fw.q (Fw.val_pickF rfl rfl) rfl ?_
                have b6 := bN (by omega)
                have b7 := bM (by omega)
                have b8 := htr (by omega) (by omega)
                refine Fw.q (Fw.val_move rfl) rfl ?_
                refine Fw.gTQ (d := 150) rfl rfl ?_
                refine Fw.q (Fw.val_move rfl) rfl ?_
                refine Fw.gTQ (d := 150) rfl rfl ?_
                refine Fw.q (Fw.val_indexP (m := 2) Try.underlying57 sz3 rfl rfl rfl (by decide) rfl) rfl ?_
                refine Fw.gTQ (d := 150) rfl rfl ?_
                refine Fw.ldQ sc3 rfl (Hx.cell 2) rfl ?_
                refine Fw.gTQ (d := 150) rfl rfl ?_
                refine Fw.q (Fw.val_indexR Try.underlying25 sz2 rfl hAC6 rfl rfl hzN haddC6) rfl ?_
                refine Fw.gTQ (d := 150) rfl rfl ?_
                refine Fw.ldQ sc2 rfl (C6) rfl ?_
                refine Fw.gTQ (d := 150) rfl rfl ?_
                refine Fw.q (Fw.val_move rfl) rfl ?_
                refine Fw.gTQ (d := 150) rfl rfl ?_
                refine Fw.q (Fw.val_indexP (m := 1) Try.underlying57 sz3 rfl rfl rfl (by decide) rfl) rfl ?_
                refine Fw.gTQ (d := 150) rfl rfl ?_
                refine Fw.ldQ sc3 rfl (Hx.cell 1) rfl ?_
                refine Fw.gTQ (d := 150) rfl rfl ?_
                refine Fw.q (Fw.val_indexR Try.underlying25 sz2 rfl hAC4 rfl rfl hyN haddC4) rfl ?_
                refine Fw.gTQ (d := 150) rfl rfl ?_
                refine Fw.ldQ sc2 rfl (C4) rfl ?_
                refine Fw.gTQ (d := 150) rfl rfl ?_
                refine Fw.q (Fw.val_move rfl) rfl ?_
                refine Fw.gTQ (d := 150) rfl rfl ?_
                refine Fw.q (Fw.val_indexP (m := 2) Try.underlying57 sz3 rfl rfl rfl (by decide) rfl) rfl ?_
                refine Fw.gTQ (d := 150) rfl rfl ?_
                refine Fw.ldQ sc3 rfl (Hx.cell 2) rfl ?_
                refine Fw.gTQ (d := 150) rfl rfl ?_
                refine Fw.q (Fw.val_indexR Try.underlying25 sz2 rfl hAC5 rfl rfl hzN haddC5) rfl ?_
                refine Fw.gTQ (d := 150) rfl rfl ?_
                refine Fw.ldQ sc2 rfl (C5) rfl ?_
                refine Fw.gTQ (d := 150) rfl rfl ?_
                refine Fw.q (Fw.val_bin rfl rfl (Fw.b_add (Fw.i64_ok (by omega)))) rfl ?_
                refine Fw.gTQ (d := 150) rfl rfl ?_
                refine Fw.q (Fw.Val.T (Fw.val_bin rfl rfl Fw.b_leq) (by omega)) rfl ?_
                refine Fw.q (Fw.val_pickF rfl rfl) rfl ?_
                refine Fw.q (Fw.val_assign rfl) rfl ?_
                refine Fw.nilQ ?_
                intro w18 hb
                clear C4
                clear C5
                clear C6
                replace Hn := Hn.low hb
                replace Hx := Hx.low hb
                replace HG := HG.low hb
                replace H1 := H1.low hb
                replace H2 := H2.low hb
                replace H3 := H3.low hb
                replace HL4 := own_below HL4 hb (Nat.le_refl _)
                replace HB := HB.trans (hb.mono HB.size)
                clear hb
                refine hK39 _ _ (Fw.FC.sub (f' := [(6, _)]) (.cons rfl .nil) ?_)
                refine Fw.ret ?_
                refine Fw.ret_ [.tmp 6] [_] Try.results10 (.tmp rfl .nil) ?_
                exact ⟨rfl, HB⟩
        · skip
          refine Fw.regionH (by kernel_rfl) ?_
          have R_Hn := Hn
          have R_Hx := Hx
          have R_H1 := H1
          have R_H2 := H2
          have R_HB := HB
          intro w19 hb
          have HS := hb
          replace Hn := Hn.low hb
          replace Hx := Hx.low hb
          replace HG := HG.low hb
          replace H1 := H1.low hb
          replace H2 := H2.low hb
          replace HB := HB.trans (hb.mono HB.size)
          clear hb
          refine Fw.hTake 0 rfl rfl (by kernel_rfl) (by kernel_rfl) (by kernel_rfl) (Fw.yV (Fw.val_move rfl)) rfl ?_
          refine Fw.hTake 1 rfl rfl (by kernel_rfl) (by kernel_rfl) (by kernel_rfl) (Fw.yV (Fw.val_move rfl)) rfl ?_
          refine Fw.hTake 3 rfl rfl (by kernel_rfl) (by kernel_rfl) (by kernel_rfl) (Fw.yV (Fw.val_indexP (m := 2) Try.underlying57 sz3 rfl rfl rfl (by decide) rfl)) rfl ?_
          refine Fw.hTake 4 rfl rfl (by kernel_rfl) (by kernel_rfl) (by kernel_rfl) (Fw.yV (Fw.hLd sc3 rfl (R_Hx.cell 2))) rfl ?_
          refine Fw.hAll2 2 5 (by kernel_rfl) ?_ ?_
          · skip
            refine Fw.hOp 2 rfl ?_
            refine Fw.call cf16 rfl rfl (longs_any _ A ts c (h.low HB) (by omega)) ?_
            rintro e_ w20 ⟨AL3, cL3, rfl, HL3, hb⟩
            refine ⟨_, rfl, ?_⟩
            replace Hn := Hn.low hb
            replace Hx := Hx.low hb
            replace HG := HG.low hb
            replace H1 := H1.low hb
            replace H2 := H2.low hb
            replace HS := HS.trans (hb.mono HS.size)
            replace HB := HB.trans (hb.mono HB.size)
            clear hb
            refine Fw.hNext HS ?_
            refine Fw.hAll1 5 (by kernel_rfl) ?_
            refine Fw.hOp 5 rfl ?_
            refine Fw.buildSlice [_] sl26 rfl rfl (by exact Fw.allSz rfl) (by decide) rfl ?_
            intro w21 gS62 egS62 HS62 hb
            have rgS62 : w6.heap.size ≤ gS62 := by have := HS.size; omega
            have n_gn_gS62 : gn < gS62 := by have := Hn.lt; omega
            have n_gx_gS62 : gx < gS62 := by have := Hx.lt; omega
            have lgS62 : w.heap.size ≤ gS62 := by have := HB.size; omega
            replace Hn := Hn.low hb
            replace Hx := Hx.low hb
            replace HG := HG.low hb
            replace H1 := H1.low hb
            replace H2 := H2.low hb
            replace HS := HS.trans (hb.mono HS.size)
            replace HL3 := own_below HL3 hb (Nat.le_refl _)
            replace HB := HB.trans (hb.mono HB.size)
            clear hb
            clear egS62
            refine Fw.hNext HS ?_
            refine Fw.hAll1 6 (by kernel_rfl) ?_
            refine Fw.hOp 6 rfl ?_
            refine Fw.call cf25 rfl rfl (to_any _ g N E HG (by omega) (by omega) hn.ok AL3 ts cL3 (Rd.of_own HL3) (some ⟨gS62, 0, none⟩) [(z : Int)] 1 (show (1 : Nat) ≤ 65536 by decide) (Fw.rdBlk HS62)) ?_
            rintro e_ w22 ⟨A3, c3, d3, rfl, H3, hd3, ht3, hb⟩
            refine ⟨_, rfl, ?_⟩
            replace Hn := Hn.low hb
            replace Hx := Hx.low hb
            replace HG := HG.low hb
            replace H1 := H1.low hb
            replace H2 := H2.low hb
            replace HS := HS.trans (hb.mono HS.size)
            replace HL3 := own_below HL3 hb (Nat.le_refl _)
            replace HS62 := HS62.low hb
            replace HB := HB.trans (hb.mono HB.size)
            clear hb
            clear HL3 HS62
            refine Fw.hNext HS ?_
            refine Fw.hTake 7 rfl rfl (by kernel_rfl) (by kernel_rfl) (by kernel_rfl) (Fw.yV (Fw.val_assign rfl)) rfl ?_
            refine Fw.hDone (by kernel_rfl) ?_
            exact hK20 _ _ ⟨A3, c3, d3⟩ ⟨Hn, Hx, HG, H1, H2, (Rd.of_own H3), ⟨hd3, Rg.src_one ht3⟩, HB⟩ (.cons rfl (.cons rfl (.cons rfl (.cons rfl (.cons rfl (.cons rfl (.cons rfl .nil)))))))
          · skip
            refine Fw.hOp 5 rfl ?_
            refine Fw.buildSlice [_] sl26 rfl rfl (by exact Fw.allSz rfl) (by decide) rfl ?_
            intro w23 gS62 egS62 HS62 hb
            have rgS62 : w6.heap.size ≤ gS62 := by have := HS.size; omega
            have n_gn_gS62 : gn < gS62 := by have := Hn.lt; omega
            have n_gx_gS62 : gx < gS62 := by have := Hx.lt; omega
            have lgS62 : w.heap.size ≤ gS62 := by have := HB.size; omega
            replace Hn := Hn.low hb
            replace Hx := Hx.low hb
            replace HG := HG.low hb
            replace H1 := H1.low hb
            replace H2 := H2.low hb
            replace HS := HS.trans (hb.mono HS.size)
            replace HB := HB.trans (hb.mono HB.size)
            clear hb
            clear egS62
            refine Fw.hNext HS ?_
            refine Fw.hAll1 2 (by kernel_rfl) ?_
            refine Fw.hOp 2 rfl ?_
            refine Fw.call cf16 rfl rfl (longs_any _ A ts c (h.low HB) (by omega)) ?_
            rintro e_ w24 ⟨AL3, cL3, rfl, HL3, hb⟩
            refine ⟨_, rfl, ?_⟩
            replace Hn := Hn.low hb
            replace Hx := Hx.low hb
            replace HG := HG.low hb
            replace H1 := H1.low hb
            replace H2 := H2.low hb
            replace HS := HS.trans (hb.mono HS.size)
            replace HS62 := HS62.low hb
            replace HB := HB.trans (hb.mono HB.size)
            clear hb
            refine Fw.hNext HS ?_
            refine Fw.hAll1 6 (by kernel_rfl) ?_
            refine Fw.hOp 6 rfl ?_
            refine Fw.call cf25 rfl rfl (to_any _ g N E HG (by omega) (by omega) hn.ok AL3 ts cL3 (Rd.of_own HL3) (some ⟨gS62, 0, none⟩) [(z : Int)] 1 (show (1 : Nat) ≤ 65536 by decide) (Fw.rdBlk HS62)) ?_
            rintro e_ w25 ⟨A3, c3, d3, rfl, H3, hd3, ht3, hb⟩
            refine ⟨_, rfl, ?_⟩
            replace Hn := Hn.low hb
            replace Hx := Hx.low hb
            replace HG := HG.low hb
            replace H1 := H1.low hb
            replace H2 := H2.low hb
            replace HS := HS.trans (hb.mono HS.size)
            replace HS62 := HS62.low hb
            replace HL3 := own_below HL3 hb (Nat.le_refl _)
            replace HB := HB.trans (hb.mono HB.size)
            clear hb
            clear HL3 HS62
            refine Fw.hNext HS ?_
            refine Fw.hTake 7 rfl rfl (by kernel_rfl) (by kernel_rfl) (by kernel_rfl) (Fw.yV (Fw.val_assign rfl)) rfl ?_
            refine Fw.hDone (by kernel_rfl) ?_
            exact hK20 _ _ ⟨A3, c3, d3⟩ ⟨Hn, Hx, HG, H1, H2, (Rd.of_own H3), ⟨hd3, Rg.src_one ht3⟩, HB⟩ (.cons rfl (.cons rfl (.cons rfl (.cons rfl (.cons rfl (.cons rfl (.cons rfl .nil)))))))
      · skip
        refine Fw.regionH (by kernel_rfl) ?_
        have R_Hn := Hn
        have R_Hx := Hx
        have R_HB := HB
        intro w26 hb
        have HS := hb
        replace Hn := Hn.low hb
        replace Hx := Hx.low hb
        replace HG := HG.low hb
        replace HB := HB.trans (hb.mono HB.size)
        clear hb
        refine Fw.hTake 0 rfl rfl (by kernel_rfl) (by kernel_rfl) (by kernel_rfl) (Fw.yV (Fw.val_move rfl)) rfl ?_
        refine Fw.hTake 1 rfl rfl (by kernel_rfl) (by kernel_rfl) (by kernel_rfl) (Fw.yV (Fw.val_move rfl)) rfl ?_
        refine Fw.hTake 3 rfl rfl (by kernel_rfl) (by kernel_rfl) (by kernel_rfl) (Fw.yV (Fw.val_indexP (m := 0) Try.underlying57 sz3 rfl rfl rfl (by decide) rfl)) rfl ?_
        refine Fw.hTake 4 rfl rfl (by kernel_rfl) (by kernel_rfl) (by kernel_rfl) (Fw.yV (Fw.hLd sc3 rfl (R_Hx.cell 0))) rfl ?_
        refine Fw.hTake 7 rfl rfl (by kernel_rfl) (by kernel_rfl) (by kernel_rfl) (Fw.yV (Fw.val_move rfl)) rfl ?_
        refine Fw.hTake 8 rfl rfl (by kernel_rfl) (by kernel_rfl) (by kernel_rfl) (Fw.yV (Fw.val_move rfl)) rfl ?_
        refine Fw.hTake 10 rfl rfl (by kernel_rfl) (by kernel_rfl) (by kernel_rfl) (Fw.yV (Fw.val_indexP (m := 1) Try.underlying57 sz3 rfl rfl rfl (by decide) rfl)) rfl ?_
        refine Fw.hTake 11 rfl rfl (by kernel_rfl) (by kernel_rfl) (by kernel_rfl) (Fw.yV (Fw.hLd sc3 rfl (R_Hx.cell 1))) rfl ?_
        refine Fw.hAll3 2 5 12 (by kernel_rfl) ?_ ?_ ?_
        · skip
          refine Fw.hOp 2 rfl ?_
          refine Fw.call cf16 rfl rfl (longs_any _ A ts c (h.low HB) (by omega)) ?_
          rintro e_ w27 ⟨AL1, cL1, rfl, HL1, hb⟩
          refine ⟨_, rfl, ?_⟩
          replace Hn := Hn.low hb
          replace Hx := Hx.low hb
          replace HG := HG.low hb
          replace HS := HS.trans (hb.mono HS.size)
          replace HB := HB.trans (hb.mono HB.size)
          clear hb
          refine Fw.hNext HS ?_
          refine Fw.hAll2 5 12 (by kernel_rfl) ?_ ?_
          · skip
            refine Fw.hOp 5 rfl ?_
            refine Fw.buildSlice [_] sl26 rfl rfl (by exact Fw.allSz rfl) (by decide) rfl ?_
            intro w28 gS48 egS48 HS48 hb
            have rgS48 : w5.heap.size ≤ gS48 := by have := HS.size; omega
            have n_gn_gS48 : gn < gS48 := by have := Hn.lt; omega
            have n_gx_gS48 : gx < gS48 := by have := Hx.lt; omega
            have lgS48 : w.heap.size ≤ gS48 := by have := HB.size; omega
            replace Hn := Hn.low hb
            replace Hx := Hx.low hb
            replace HG := HG.low hb
            replace HS := HS.trans (hb.mono HS.size)
            replace HL1 := own_below HL1 hb (Nat.le_refl _)
            replace HB := HB.trans (hb.mono HB.size)
            clear hb
            clear egS48
            refine Fw.hNext HS ?_
            refine Fw.hAll2 6 12 (by kernel_rfl) ?_ ?_
            · skip
              refine Fw.hOp 6 rfl ?_
              refine Fw.call cf15 rfl rfl (from_any _ g N E HG (by omega) (by omega) hn.ok AL1 ts cL1 (Rd.of_own HL1) (some ⟨gS48, 0, none⟩) [(x : Int)] 1 (show (1 : Nat) ≤ 65536 by decide) (Fw.rdBlk HS48)) ?_
              rintro e_ w29 ⟨A1, c1, d1, rfl, H1, hd1, ht1, hb⟩
              refine ⟨_, rfl, ?_⟩
              replace Hn := Hn.low hb
              replace Hx := Hx.low hb
              replace HG := HG.low hb
              replace HS := HS.trans (hb.mono HS.size)
              replace HL1 := own_below HL1 hb (Nat.le_refl _)
              replace HS48 := HS48.low hb
              replace HB := HB.trans (hb.mono HB.size)
              clear hb
              clear HL1 HS48
              refine Fw.hNext HS ?_
              refine Fw.hAll2 9 12 (by kernel_rfl) ?_ ?_
              · skip
                refine Fw.hOp 9 rfl ?_
                refine Fw.call cf16 rfl rfl (longs_any _ A ts c (h.low HB) (by omega)) ?_
                rintro e_ w30 ⟨AL2, cL2, rfl, HL2, hb⟩
                refine ⟨_, rfl, ?_⟩
                replace Hn := Hn.low hb
                replace Hx := Hx.low hb
                replace HG := HG.low hb
                replace HS := HS.trans (hb.mono HS.size)
                replace H1 := own_below H1 hb (Nat.le_refl _)
                replace HB := HB.trans (hb.mono HB.size)
                clear hb
                refine Fw.hNext HS ?_
                refine Fw.hAll1 12 (by kernel_rfl) ?_
                refine Fw.hOp 12 rfl ?_
                refine Fw.buildSlice [_] sl26 rfl rfl (by exact Fw.allSz rfl) (by decide) rfl ?_
                intro w31 gS55 egS55 HS55 hb
                have rgS55 : w5.heap.size ≤ gS55 := by have := HS.size; omega
                have n_gn_gS55 : gn < gS55 := by have := Hn.lt; omega
                have n_gx_gS55 : gx < gS55 := by have := Hx.lt; omega
                have lgS55 : w.heap.size ≤ gS55 := by have := HB.size; omega
                replace Hn := Hn.low hb
                replace Hx := Hx.low hb
                replace HG := HG.low hb
                replace HS := HS.trans (hb.mono HS.size)
                replace H1 := own_below H1 hb (Nat.le_refl _)
                replace HL2 := own_below HL2 hb (Nat.le_refl _)
                replace HB := HB.trans (hb.mono HB.size)
                clear hb
                clear egS55
                refine Fw.hNext HS ?_
                refine Fw.hAll1 13 (by kernel_rfl) ?_
                refine Fw.hOp 13 rfl ?_
                refine Fw.call cf15 rfl rfl (from_any _ g N E HG (by omega) (by omega) hn.ok AL2 ts cL2 (Rd.of_own HL2) (some ⟨gS55, 0, none⟩) [(y : Int)] 1 (show (1 : Nat) ≤ 65536 by decide) (Fw.rdBlk HS55)) ?_
                rintro e_ w32 ⟨A2, c2, d2, rfl, H2, hd2, ht2, hb⟩
                refine ⟨_, rfl, ?_⟩
                replace Hn := Hn.low hb
                replace Hx := Hx.low hb
                replace HG := HG.low hb
                replace HS := HS.trans (hb.mono HS.size)
                replace H1 := own_below H1 hb (Nat.le_refl _)
                replace HL2 := own_below HL2 hb (Nat.le_refl _)
                replace HS55 := HS55.low hb
                replace HB := HB.trans (hb.mono HB.size)
                clear hb
                clear HL2 HS55
                refine Fw.hNext HS ?_
                refine Fw.hTake 14 rfl rfl (by kernel_rfl) (by kernel_rfl) (by kernel_rfl) (Fw.yV (Fw.val_assign rfl)) rfl ?_
                refine Fw.hTake 15 rfl rfl (by kernel_rfl) (by kernel_rfl) (by kernel_rfl) (Fw.yV (Fw.val_assign rfl)) rfl ?_
                refine Fw.hDone (by kernel_rfl) ?_
                exact hK19 _ _ ⟨A1, c1, d1, A2, c2, d2⟩ ⟨Hn, Hx, HG, (Rd.of_own H1), (Rd.of_own H2), ⟨hd1, Rg.src_one ht1⟩, ⟨hd2, Rg.src_one ht2⟩, HB⟩ (.cons rfl (.cons rfl (.cons rfl (.cons rfl (.cons rfl (.cons rfl .nil))))))
              · skip
                refine Fw.hOp 12 rfl ?_
                refine Fw.buildSlice [_] sl26 rfl rfl (by exact Fw.allSz rfl) (by decide) rfl ?_
                intro w33 gS55 egS55 HS55 hb
                have rgS55 : w5.heap.size ≤ gS55 := by have := HS.size; omega
                have n_gn_gS55 : gn < gS55 := by have := Hn.lt; omega
                have n_gx_gS55 : gx < gS55 := by have := Hx.lt; omega
                have lgS55 : w.heap.size ≤ gS55 := by have := HB.size; omega
                replace Hn := Hn.low hb
                replace Hx := Hx.low hb
                replace HG := HG.low hb
                replace HS := HS.trans (hb.mono HS.size)
                replace H1 := own_below H1 hb (Nat.le_refl _)
                replace HB := HB.trans (hb.mono HB.size)
                clear hb
                clear egS55
                refine Fw.hNext HS ?_
                refine Fw.hAll1 9 (by kernel_rfl) ?_
                refine Fw.hOp 9 rfl ?_
                refine Fw.call cf16 rfl rfl (longs_any _ A ts c (h.low HB) (by omega)) ?_
                rintro e_ w34 ⟨AL2, cL2, rfl, HL2, hb⟩
                refine ⟨_, rfl, ?_⟩
                replace Hn := Hn.low hb
                replace Hx := Hx.low hb
                replace HG := HG.low hb
                replace HS := HS.trans (hb.mono HS.size)
                replace H1 := own_below H1 hb (Nat.le_refl _)
                replace HS55 := HS55.low hb
                replace HB := HB.trans (hb.mono HB.size)
                clear hb
                refine Fw.hNext HS ?_
                refine Fw.hAll1 13 (by kernel_rfl) ?_
                refine Fw.hOp 13 rfl ?_
                refine Fw.call cf15 rfl rfl (from_any _ g N E HG (by omega) (by omega) hn.ok AL2 ts cL2 (Rd.of_own HL2) (some ⟨gS55, 0, none⟩) [(y : Int)] 1 (show (1 : Nat) ≤ 65536 by decide) (Fw.rdBlk HS55)) ?_
                rintro e_ w35 ⟨A2, c2, d2, rfl, H2, hd2, ht2, hb⟩
                refine ⟨_, rfl, ?_⟩
                replace Hn := Hn.low hb
                replace Hx := Hx.low hb
                replace HG := HG.low hb
                replace HS := HS.trans (hb.mono HS.size)
                replace H1 := own_below H1 hb (Nat.le_refl _)
                replace HS55 := HS55.low hb
                replace HL2 := own_below HL2 hb (Nat.le_refl _)
                replace HB := HB.trans (hb.mono HB.size)
                clear hb
                clear HL2 HS55
                refine Fw.hNext HS ?_
                refine Fw.hTake 14 rfl rfl (by kernel_rfl) (by kernel_rfl) (by kernel_rfl) (Fw.yV (Fw.val_assign rfl)) rfl ?_
                refine Fw.hTake 15 rfl rfl (by kernel_rfl) (by kernel_rfl) (by kernel_rfl) (Fw.yV (Fw.val_assign rfl)) rfl ?_
                refine Fw.hDone (by kernel_rfl) ?_
                exact hK19 _ _ ⟨A1, c1, d1, A2, c2, d2⟩ ⟨Hn, Hx, HG, (Rd.of_own H1), (Rd.of_own H2), ⟨hd1, Rg.src_one ht1⟩, ⟨hd2, Rg.src_one ht2⟩, HB⟩ (.cons rfl (.cons rfl (.cons rfl (.cons rfl (.cons rfl (.cons rfl .nil))))))
            · skip
              refine Fw.hOp 12 rfl ?_
              refine Fw.buildSlice [_] sl26 rfl rfl (by exact Fw.allSz rfl) (by decide) rfl ?_
              intro w36 gS55 egS55 HS55 hb
              have rgS55 : w5.heap.size ≤ gS55 := by have := HS.size; omega
              have n_gn_gS55 : gn < gS55 := by have := Hn.lt; omega
              have n_gx_gS55 : gx < gS55 := by have := Hx.lt; omega
              have n_gS48_gS55 : gS48 < gS55 := by have := HS48.lt; omega
              have lgS55 : w.heap.size ≤ gS55 := by have := HB.size; omega
              replace Hn := Hn.low hb
              replace Hx := Hx.low hb
              replace HG := HG.low hb
              replace HS := HS.trans (hb.mono HS.size)
              replace HL1 := own_below HL1 hb (Nat.le_refl _)
              replace HS48 := HS48.low hb
              replace HB := HB.trans (hb.mono HB.size)
              clear hb
              clear egS55
              refine Fw.hNext HS ?_
              refine Fw.hAll1 6 (by kernel_rfl) ?_
              refine Fw.hOp 6 rfl ?_
              refine Fw.call cf15 rfl rfl (from_any _ g N E HG (by omega) (by omega) hn.ok AL1 ts cL1 (Rd.of_own HL1) (some ⟨gS48, 0, none⟩) [(x : Int)] 1 (show (1 : Nat) ≤ 65536 by decide) (Fw.rdBlk HS48)) ?_
              rintro e_ w37 ⟨A1, c1, d1, rfl, H1, hd1, ht1, hb⟩
              refine ⟨_, rfl, ?_⟩
              replace Hn := Hn.low hb
              replace Hx := Hx.low hb
              replace HG := HG.low hb
              replace HS := HS.trans (hb.mono HS.size)
              replace HL1 := own_below HL1 hb (Nat.le_refl _)
              replace HS48 := HS48.low hb
              replace HS55 := HS55.low hb
              replace HB := HB.trans (hb.mono HB.size)
              clear hb
              clear HL1 HS48
              refine Fw.hNext HS ?_
              refine Fw.hAll1 9 (by kernel_rfl) ?_
              refine Fw.hOp 9 rfl ?_
              refine Fw.call cf16 rfl rfl (longs_any _ A ts c (h.low HB) (by omega)) ?_
              rintro e_ w38 ⟨AL2, cL2, rfl, HL2, hb⟩
              refine ⟨_, rfl, ?_⟩
              replace Hn := Hn.low hb
              replace Hx := Hx.low hb
              replace HG := HG.low hb
              replace HS := HS.trans (hb.mono HS.size)
              replace HS55 := HS55.low hb
              replace H1 := own_below H1 hb (Nat.le_refl _)
              replace HB := HB.trans (hb.mono HB.size)
              clear hb
              refine Fw.hNext HS ?_
              refine Fw.hAll1 13 (by kernel_rfl) ?_
              refine Fw.hOp 13 rfl ?_
              refine Fw.call cf15 rfl rfl (from_any _ g N E HG (by omega) (by omega) hn.ok AL2 ts cL2 (Rd.of_own HL2) (some ⟨gS55, 0, none⟩) [(y : Int)] 1 (show (1 : Nat) ≤ 65536 by decide) (Fw.rdBlk HS55)) ?_
              rintro e_ w39 ⟨A2, c2, d2, rfl, H2, hd2, ht2, hb⟩
              refine ⟨_, rfl, ?_⟩
              replace Hn := Hn.low hb
              replace Hx := Hx.low hb
              replace HG := HG.low hb
              replace HS := HS.trans (hb.mono HS.size)
              replace HS55 := HS55.low hb
              replace H1 := own_below H1 hb (Nat.le_refl _)
              replace HL2 := own_below HL2 hb (Nat.le_refl _)
              replace HB := HB.trans (hb.mono HB.size)
              clear hb
              clear HL2 HS55
              refine Fw.hNext HS ?_
              refine Fw.hTake 14 rfl rfl (by kernel_rfl) (by kernel_rfl) (by kernel_rfl) (Fw.yV (Fw.val_assign rfl)) rfl ?_
              refine Fw.hTake 15 rfl rfl (by kernel_rfl) (by kernel_rfl) (by kernel_rfl) (Fw.yV (Fw.val_assign rfl)) rfl ?_
              refine Fw.hDone (by kernel_rfl) ?_
              exact hK19 _ _ ⟨A1, c1, d1, A2, c2, d2⟩ ⟨Hn, Hx, HG, (Rd.of_own H1), (Rd.of_own H2), ⟨hd1, Rg.src_one ht1⟩, ⟨hd2, Rg.src_one ht2⟩, HB⟩ (.cons rfl (.cons rfl (.cons rfl (.cons rfl (.cons rfl (.cons rfl .nil))))))
          · skip
            refine Fw.hOp 12 rfl ?_
            refine Fw.buildSlice [_] sl26 rfl rfl (by exact Fw.allSz rfl) (by decide) rfl ?_
            intro w40 gS55 egS55 HS55 hb
            have rgS55 : w5.heap.size ≤ gS55 := by have := HS.size; omega
            have n_gn_gS55 : gn < gS55 := by have := Hn.lt; omega
            have n_gx_gS55 : gx < gS55 := by have := Hx.lt; omega
            have lgS55 : w.heap.size ≤ gS55 := by have := HB.size; omega
            replace Hn := Hn.low hb
            replace Hx := Hx.low hb
            replace HG := HG.low hb
            replace HS := HS.trans (hb.mono HS.size)
            replace HL1 := own_below HL1 hb (Nat.le_refl _)
            replace HB := HB.trans (hb.mono HB.size)
            clear hb
            clear egS55
            refine Fw.hNext HS ?_
            refine Fw.hAll1 5 (by kernel_rfl) ?_
            refine Fw.hOp 5 rfl ?_
            refine Fw.buildSlice [_] sl26 rfl rfl (by exact Fw.allSz rfl) (by decide) rfl ?_
            intro w41 gS48 egS48 HS48 hb
            have rgS48 : w5.heap.size ≤ gS48 := by have := HS.size; omega
            have n_gn_gS48 : gn < gS48 := by have := Hn.lt; omega
            have n_gx_gS48 : gx < gS48 := by have := Hx.lt; omega
            have n_gS55_gS48 : gS55 < gS48 := by have := HS55.lt; omega
            have lgS48 : w.heap.size ≤ gS48 := by have := HB.size; omega
            replace Hn := Hn.low hb
            replace Hx := Hx.low hb
            replace HG := HG.low hb
            replace HS := HS.trans (hb.mono HS.size)
            replace HL1 := own_below HL1 hb (Nat.le_refl _)
            replace HS55 := HS55.low hb
            replace HB := HB.trans (hb.mono HB.size)
            clear hb
            clear egS48
            refine Fw.hNext HS ?_
            refine Fw.hAll1 6 (by kernel_rfl) ?_
            refine Fw.hOp 6 rfl ?_
            refine Fw.call cf15 rfl rfl (from_any _ g N E HG (by omega) (by omega) hn.ok AL1 ts cL1 (Rd.of_own HL1) (some ⟨gS48, 0, none⟩) [(x : Int)] 1 (show (1 : Nat) ≤ 65536 by decide) (Fw.rdBlk HS48)) ?_
            rintro e_ w42 ⟨A1, c1, d1, rfl, H1, hd1, ht1, hb⟩
            refine ⟨_, rfl, ?_⟩
            replace Hn := Hn.low hb
            replace Hx := Hx.low hb
            replace HG := HG.low hb
            replace HS := HS.trans (hb.mono HS.size)
            replace HL1 := own_below HL1 hb (Nat.le_refl _)
            replace HS55 := HS55.low hb
            replace HS48 := HS48.low hb
            replace HB := HB.trans (hb.mono HB.size)
            clear hb
            clear HL1 HS48
            refine Fw.hNext HS ?_
            refine Fw.hAll1 9 (by kernel_rfl) ?_
            refine Fw.hOp 9 rfl ?_
            refine Fw.call cf16 rfl rfl (longs_any _ A ts c (h.low HB) (by omega)) ?_
            rintro e_ w43 ⟨AL2, cL2, rfl, HL2, hb⟩
            refine ⟨_, rfl, ?_⟩
            replace Hn := Hn.low hb
            replace Hx := Hx.low hb
            replace HG := HG.low hb
            replace HS := HS.trans (hb.mono HS.size)
            replace HS55 := HS55.low hb
            replace H1 := own_below H1 hb (Nat.le_refl _)
            replace HB := HB.trans (hb.mono HB.size)
            clear hb
            refine Fw.hNext HS ?_
            refine Fw.hAll1 13 (by kernel_rfl) ?_
            refine Fw.hOp 13 rfl ?_
            refine Fw.call cf15 rfl rfl (from_any _ g N E HG (by omega) (by omega) hn.ok AL2 ts cL2 (Rd.of_own HL2) (some ⟨gS55, 0, none⟩) [(y : Int)] 1 (show (1 : Nat) ≤ 65536 by decide) (Fw.rdBlk HS55)) ?_
            rintro e_ w44 ⟨A2, c2, d2, rfl, H2, hd2, ht2, hb⟩
            refine ⟨_, rfl, ?_⟩
            replace Hn := Hn.low hb
            replace Hx := Hx.low hb
            replace HG := HG.low hb
            replace HS := HS.trans (hb.mono HS.size)
            replace HS55 := HS55.low hb
            replace H1 := own_below H1 hb (Nat.le_refl _)
            replace HL2 := own_below HL2 hb (Nat.le_refl _)
            replace HB := HB.trans (hb.mono HB.size)
            clear hb
            clear HL2 HS55
            refine Fw.hNext HS ?_
            refine Fw.hTake 14 rfl rfl (by kernel_rfl) (by kernel_rfl) (by kernel_rfl) (Fw.yV (Fw.val_assign rfl)) rfl ?_
            refine Fw.hTake 15 rfl rfl (by kernel_rfl) (by kernel_rfl) (by kernel_rfl) (Fw.yV (Fw.val_assign rfl)) rfl ?_
            refine Fw.hDone (by kernel_rfl) ?_
            exact hK19 _ _ ⟨A1, c1, d1, A2, c2, d2⟩ ⟨Hn, Hx, HG, (Rd.of_own H1), (Rd.of_own H2), ⟨hd1, Rg.src_one ht1⟩, ⟨hd2, Rg.src_one ht2⟩, HB⟩ (.cons rfl (.cons rfl (.cons rfl (.cons rfl (.cons rfl (.cons rfl .nil))))))
        · skip
          refine Fw.hOp 5 rfl ?_
          refine Fw.buildSlice [_] sl26 rfl rfl (by exact Fw.allSz rfl) (by decide) rfl ?_
          intro w45 gS48 egS48 HS48 hb
          have rgS48 : w5.heap.size ≤ gS48 := by have := HS.size; omega
          have n_gn_gS48 : gn < gS48 := by have := Hn.lt; omega
          have n_gx_gS48 : gx < gS48 := by have := Hx.lt; omega
          have lgS48 : w.heap.size ≤ gS48 := by have := HB.size; omega
          replace Hn := Hn.low hb
          replace Hx := Hx.low hb
          replace HG := HG.low hb
          replace HS := HS.trans (hb.mono HS.size)
          replace HB := HB.trans (hb.mono HB.size)
          clear hb
          clear egS48
          refine Fw.hNext HS ?_
          refine Fw.hAll2 2 12 (by kernel_rfl) ?_ ?_
          · skip
            refine Fw.hOp 2 rfl ?_
            refine Fw.call cf16 rfl rfl (longs_any _ A ts c (h.low HB) (by omega)) ?_
            rintro e_ w46 ⟨AL1, cL1, rfl, HL1, hb⟩
            refine ⟨_, rfl, ?_⟩
            replace Hn := Hn.low hb
            replace Hx := Hx.low hb
            replace HG := HG.low hb
            replace HS := HS.trans (hb.mono HS.size)
            replace HS48 := HS48.low hb
            replace HB := HB.trans (hb.mono HB.size)
            clear hb
            refine Fw.hNext HS ?_
            refine Fw.hAll2 6 12 (by kernel_rfl) ?_ ?_
            · skip
              refine Fw.hOp 6 rfl ?_
              refine Fw.call cf15 rfl rfl (from_any _ g N E HG (by omega) (by omega) hn.ok AL1 ts cL1 (Rd.of_own HL1) (some ⟨gS48, 0, none⟩) [(x : Int)] 1 (show (1 : Nat) ≤ 65536 by decide) (Fw.rdBlk HS48)) ?_
              rintro e_ w47 ⟨A1, c1, d1, rfl, H1, hd1, ht1, hb⟩
              refine ⟨_, rfl, ?_⟩
              replace Hn := Hn.low hb
              replace Hx := Hx.low hb
              replace HG := HG.low hb
              replace HS := HS.trans (hb.mono HS.size)
              replace HS48 := HS48.low hb
              replace HL1 := own_below HL1 hb (Nat.le_refl _)
              replace HB := HB.trans (hb.mono HB.size)
              clear hb
              clear HL1 HS48
              refine Fw.hNext HS ?_
              refine Fw.hAll2 9 12 (by kernel_rfl) ?_ ?_
              · skip
                refine Fw.hOp 9 rfl ?_
                refine Fw.call cf16 rfl rfl (longs_any _ A ts c (h.low HB) (by omega)) ?_
                rintro e_ w48 ⟨AL2, cL2, rfl, HL2, hb⟩
                refine ⟨_, rfl, ?_⟩
                replace Hn := Hn.low hb
                replace Hx := Hx.low hb
                replace HG := HG.low hb
                replace HS := HS.trans (hb.mono HS.size)
                replace H1 := own_below H1 hb (Nat.le_refl _)
                replace HB := HB.trans (hb.mono HB.size)
                clear hb
                refine Fw.hNext HS ?_
                refine Fw.hAll1 12 (by kernel_rfl) ?_
                refine Fw.hOp 12 rfl ?_
                refine Fw.buildSlice [_] sl26 rfl rfl (by exact Fw.allSz rfl) (by decide) rfl ?_
                intro w49 gS55 egS55 HS55 hb
                have rgS55 : w5.heap.size ≤ gS55 := by have := HS.size; omega
                have n_gn_gS55 : gn < gS55 := by have := Hn.lt; omega
                have n_gx_gS55 : gx < gS55 := by have := Hx.lt; omega
                have lgS55 : w.heap.size ≤ gS55 := by have := HB.size; omega
                replace Hn := Hn.low hb
                replace Hx := Hx.low hb
                replace HG := HG.low hb
                replace HS := HS.trans (hb.mono HS.size)
                replace H1 := own_below H1 hb (Nat.le_refl _)
                replace HL2 := own_below HL2 hb (Nat.le_refl _)
                replace HB := HB.trans (hb.mono HB.size)
                clear hb
                clear egS55
                refine Fw.hNext HS ?_
                refine Fw.hAll1 13 (by kernel_rfl) ?_
                refine Fw.hOp 13 rfl ?_
                refine Fw.call cf15 rfl rfl (from_any _ g N E HG (by omega) (by omega) hn.ok AL2 ts cL2 (Rd.of_own HL2) (some ⟨gS55, 0, none⟩) [(y : Int)] 1 (show (1 : Nat) ≤ 65536 by decide) (Fw.rdBlk HS55)) ?_
                rintro e_ w50 ⟨A2, c2, d2, rfl, H2, hd2, ht2, hb⟩
                refine ⟨_, rfl, ?_⟩
                replace Hn := Hn.low hb
                replace Hx := Hx.low hb
                replace HG := HG.low hb
                replace HS := HS.trans (hb.mono HS.size)
                replace H1 := own_below H1 hb (Nat.le_refl _)
                replace HL2 := own_below HL2 hb (Nat.le_refl _)
                replace HS55 := HS55.low hb
                replace HB := HB.trans (hb.mono HB.size)
                clear hb
                clear HL2 HS55
                refine Fw.hNext HS ?_
                refine Fw.hTake 14 rfl rfl (by kernel_rfl) (by kernel_rfl) (by kernel_rfl) (Fw.yV (Fw.val_assign rfl)) rfl ?_
                refine Fw.hTake 15 rfl rfl (by kernel_rfl) (by kernel_rfl) (by kernel_rfl) (Fw.yV (Fw.val_assign rfl)) rfl ?_
                refine Fw.hDone (by kernel_rfl) ?_
                exact hK19 _ _ ⟨A1, c1, d1, A2, c2, d2⟩ ⟨Hn, Hx, HG, (Rd.of_own H1), (Rd.of_own H2), ⟨hd1, Rg.src_one ht1⟩, ⟨hd2, Rg.src_one ht2⟩, HB⟩ (.cons rfl (.cons rfl (.cons rfl (.cons rfl (.cons rfl (.cons rfl .nil))))))
              · skip
                refine Fw.hOp 12 rfl ?_
                refine Fw.buildSlice [_] sl26 rfl rfl (by exact Fw.allSz rfl) (by decide) rfl ?_
                intro w51 gS55 egS55 HS55 hb
                have rgS55 : w5.heap.size ≤ gS55 := by have := HS.size; omega
                have n_gn_gS55 : gn < gS55 := by have := Hn.lt; omega
                have n_gx_gS55 : gx < gS55 := by have := Hx.lt; omega
                have lgS55 : w.heap.size ≤ gS55 := by have := HB.size; omega
                replace Hn := Hn.low hb
                replace Hx := Hx.low hb
                replace HG := HG.low hb
                replace HS := HS.trans (hb.mono HS.size)
                replace H1 := own_below H1 hb (Nat.le_refl _)
                replace HB := HB.trans (hb.mono HB.size)
                clear hb
                clear egS55
                refine Fw.hNext HS ?_
                refine Fw.hAll1 9 (by kernel_rfl) ?_
                refine Fw.hOp 9 rfl ?_
                refine Fw.call cf16 rfl rfl (longs_any _ A ts c (h.low HB) (by omega)) ?_
                rintro e_ w52 ⟨AL2, cL2, rfl, HL2, hb⟩
                refine ⟨_, rfl, ?_⟩
                replace Hn := Hn.low hb
                replace Hx := Hx.low hb
                replace HG := HG.low hb
                replace HS := HS.trans (hb.mono HS.size)
                replace H1 := own_below H1 hb (Nat.le_refl _)
                replace HS55 := HS55.low hb
                replace HB := HB.trans (hb.mono HB.size)
                clear hb
                refine Fw.hNext HS ?_
                refine Fw.hAll1 13 (by kernel_rfl) ?_
                refine Fw.hOp 13 rfl ?_
                refine Fw.call cf15 rfl rfl (from_any _ g N E HG (by omega) (by omega) hn.ok AL2 ts cL2 (Rd.of_own HL2) (some ⟨gS55, 0, none⟩) [(y : Int)] 1 (show (1 : Nat) ≤ 65536 by decide) (Fw.rdBlk HS55)) ?_
                rintro e_ w53 ⟨A2, c2, d2, rfl, H2, hd2, ht2, hb⟩
                refine ⟨_, rfl, ?_⟩
                replace Hn := Hn.low hb
                replace Hx := Hx.low hb
                replace HG := HG.low hb
                replace HS := HS.trans (hb.mono HS.size)
                replace H1 := own_below H1 hb (Nat.le_refl _)
                replace HS55 := HS55.low hb
                replace HL2 := own_below HL2 hb (Nat.le_refl _)
                replace HB := HB.trans (hb.mono HB.size)
                clear hb
                clear HL2 HS55
                refine Fw.hNext HS ?_
                refine Fw.hTake 14 rfl rfl (by kernel_rfl) (by kernel_rfl) (by kernel_rfl) (Fw.yV (Fw.val_assign rfl)) rfl ?_
                refine Fw.hTake 15 rfl rfl (by kernel_rfl) (by kernel_rfl) (by kernel_rfl) (Fw.yV (Fw.val_assign rfl)) rfl ?_
                refine Fw.hDone (by kernel_rfl) ?_
                exact hK19 _ _ ⟨A1, c1, d1, A2, c2, d2⟩ ⟨Hn, Hx, HG, (Rd.of_own H1), (Rd.of_own H2), ⟨hd1, Rg.src_one ht1⟩, ⟨hd2, Rg.src_one ht2⟩, HB⟩ (.cons rfl (.cons rfl (.cons rfl (.cons rfl (.cons rfl (.cons rfl .nil))))))
            · skip
              refine Fw.hOp 12 rfl ?_
              refine Fw.buildSlice [_] sl26 rfl rfl (by exact Fw.allSz rfl) (by decide) rfl ?_
              intro w54 gS55 egS55 HS55 hb
              have rgS55 : w5.heap.size ≤ gS55 := by have := HS.size; omega
              have n_gn_gS55 : gn < gS55 := by have := Hn.lt; omega
              have n_gx_gS55 : gx < gS55 := by have := Hx.lt; omega
              have n_gS48_gS55 : gS48 < gS55 := by have := HS48.lt; omega
              have lgS55 : w.heap.size ≤ gS55 := by have := HB.size; omega
              replace Hn := Hn.low hb
              replace Hx := Hx.low hb
              replace HG := HG.low hb
              replace HS := HS.trans (hb.mono HS.size)
              replace HS48 := HS48.low hb
              replace HL1 := own_below HL1 hb (Nat.le_refl _)
              replace HB := HB.trans (hb.mono HB.size)
              clear hb
              clear egS55
              refine Fw.hNext HS ?_
              refine Fw.hAll1 6 (by kernel_rfl) ?_
              refine Fw.hOp 6 rfl ?_
              refine Fw.call cf15 rfl rfl (from_any _ g N E HG (by omega) (by omega) hn.ok AL1 ts cL1 (Rd.of_own HL1) (some ⟨gS48, 0, none⟩) [(x : Int)] 1 (show (1 : Nat) ≤ 65536 by decide) (Fw.rdBlk HS48)) ?_
              rintro e_ w55 ⟨A1, c1, d1, rfl, H1, hd1, ht1, hb⟩
              refine ⟨_, rfl, ?_⟩
              replace Hn := Hn.low hb
              replace Hx := Hx.low hb
              replace HG := HG.low hb
              replace HS := HS.trans (hb.mono HS.size)
              replace HS48 := HS48.low hb
              replace HL1 := own_below HL1 hb (Nat.le_refl _)
              replace HS55 := HS55.low hb
              replace HB := HB.trans (hb.mono HB.size)
              clear hb
              clear HL1 HS48
              refine Fw.hNext HS ?_
              refine Fw.hAll1 9 (by kernel_rfl) ?_
              refine Fw.hOp 9 rfl ?_
              refine Fw.call cf16 rfl rfl (longs_any _ A ts c (h.low HB) (by omega)) ?_
              rintro e_ w56 ⟨AL2, cL2, rfl, HL2, hb⟩
              refine ⟨_, rfl, ?_⟩
              replace Hn := Hn.low hb
              replace Hx := Hx.low hb
              replace HG := HG.low hb
              replace HS := HS.trans (hb.mono HS.size)
              replace HS55 := HS55.low hb
              replace H1 := own_below H1 hb (Nat.le_refl _)
              replace HB := HB.trans (hb.mono HB.size)
              clear hb
              refine Fw.hNext HS ?_
              refine Fw.hAll1 13 (by kernel_rfl) ?_
              refine Fw.hOp 13 rfl ?_
              refine Fw.call cf15 rfl rfl (from_any _ g N E HG (by omega) (by omega) hn.ok AL2 ts cL2 (Rd.of_own HL2) (some ⟨gS55, 0, none⟩) [(y : Int)] 1 (show (1 : Nat) ≤ 65536 by decide) (Fw.rdBlk HS55)) ?_
              rintro e_ w57 ⟨A2, c2, d2, rfl, H2, hd2, ht2, hb⟩
              refine ⟨_, rfl, ?_⟩
              replace Hn := Hn.low hb
              replace Hx := Hx.low hb
              replace HG := HG.low hb
              replace HS := HS.trans (hb.mono HS.size)
              replace HS55 := HS55.low hb
              replace H1 := own_below H1 hb (Nat.le_refl _)
              replace HL2 := own_below HL2 hb (Nat.le_refl _)
              replace HB := HB.trans (hb.mono HB.size)
              clear hb
              clear HL2 HS55
              refine Fw.hNext HS ?_
              refine Fw.hTake 14 rfl rfl (by kernel_rfl) (by kernel_rfl) (by kernel_rfl) (Fw.yV (Fw.val_assign rfl)) rfl ?_
              refine Fw.hTake 15 rfl rfl (by kernel_rfl) (by kernel_rfl) (by kernel_rfl) (Fw.yV (Fw.val_assign rfl)) rfl ?_
              refine Fw.hDone (by kernel_rfl) ?_
              exact hK19 _ _ ⟨A1, c1, d1, A2, c2, d2⟩ ⟨Hn, Hx, HG, (Rd.of_own H1), (Rd.of_own H2), ⟨hd1, Rg.src_one ht1⟩, ⟨hd2, Rg.src_one ht2⟩, HB⟩ (.cons rfl (.cons rfl (.cons rfl (.cons rfl (.cons rfl (.cons rfl .nil))))))
          · skip
            refine Fw.hOp 12 rfl ?_
            refine Fw.buildSlice [_] sl26 rfl rfl (by exact Fw.allSz rfl) (by decide) rfl ?_
            intro w58 gS55 egS55 HS55 hb
            have rgS55 : w5.heap.size ≤ gS55 := by have := HS.size; omega
            have n_gn_gS55 : gn < gS55 := by have := Hn.lt; omega
            have n_gx_gS55 : gx < gS55 := by have := Hx.lt; omega
            have n_gS48_gS55 : gS48 < gS55 := by have := HS48.lt; omega
            have lgS55 : w.heap.size ≤ gS55 := by have := HB.size; omega
            replace Hn := Hn.low hb
            replace Hx := Hx.low hb
            replace HG := HG.low hb
            replace HS := HS.trans (hb.mono HS.size)
            replace HS48 := HS48.low hb
            replace HB := HB.trans (hb.mono HB.size)
            clear hb
            clear egS55
            refine Fw.hNext HS ?_
            refine Fw.hAll1 2 (by kernel_rfl) ?_
            refine Fw.hOp 2 rfl ?_
            refine Fw.call cf16 rfl rfl (longs_any _ A ts c (h.low HB) (by omega)) ?_
            rintro e_ w59 ⟨AL1, cL1, rfl, HL1, hb⟩
            refine ⟨_, rfl, ?_⟩
            replace Hn := Hn.low hb
            replace Hx := Hx.low hb
            replace HG := HG.low hb
            replace HS := HS.trans (hb.mono HS.size)
            replace HS48 := HS48.low hb
            replace HS55 := HS55.low hb
            replace HB := HB.trans (hb.mono HB.size)
            clear hb
            refine Fw.hNext HS ?_
            refine Fw.hAll1 6 (by kernel_rfl) ?_
            refine Fw.hOp 6 rfl ?_
            refine Fw.call cf15 rfl rfl (from_any _ g N E HG (by omega) (by omega) hn.ok AL1 ts cL1 (Rd.of_own HL1) (some ⟨gS48, 0, none⟩) [(x : Int)] 1 (show (1 : Nat) ≤ 65536 by decide) (Fw.rdBlk HS48)) ?_
            rintro e_ w60 ⟨A1, c1, d1, rfl, H1, hd1, ht1, hb⟩
            refine ⟨_, rfl, ?_⟩
            replace Hn := Hn.low hb
            replace Hx := Hx.low hb
            replace HG := HG.low hb
            replace HS := HS.trans (hb.mono HS.size)
            replace HS48 := HS48.low hb
            replace HS55 := HS55.low hb
            replace HL1 := own_below HL1 hb (Nat.le_refl _)
            replace HB := HB.trans (hb.mono HB.size)
            clear hb
            clear HL1 HS48
            refine Fw.hNext HS ?_
            refine Fw.hAll1 9 (by kernel_rfl) ?_
            refine Fw.hOp 9 rfl ?_
            refine Fw.call cf16 rfl rfl (longs_any _ A ts c (h.low HB) (by omega)) ?_
            rintro e_ w61 ⟨AL2, cL2, rfl, HL2, hb⟩
            refine ⟨_, rfl, ?_⟩
            replace Hn := Hn.low hb
            replace Hx := Hx.low hb
            replace HG := HG.low hb
            replace HS := HS.trans (hb.mono HS.size)
            replace HS55 := HS55.low hb
            replace H1 := own_below H1 hb (Nat.le_refl _)
            replace HB := HB.trans (hb.mono HB.size)
            clear hb
            refine Fw.hNext HS ?_
            refine Fw.hAll1 13 (by kernel_rfl) ?_
            refine Fw.hOp 13 rfl ?_
            refine Fw.call cf15 rfl rfl (from_any _ g N E HG (by omega) (by omega) hn.ok AL2 ts cL2 (Rd.of_own HL2) (some ⟨gS55, 0, none⟩) [(y : Int)] 1 (show (1 : Nat) ≤ 65536 by decide) (Fw.rdBlk HS55)) ?_
            rintro e_ w62 ⟨A2, c2, d2, rfl, H2, hd2, ht2, hb⟩
            refine ⟨_, rfl, ?_⟩
            replace Hn := Hn.low hb
            replace Hx := Hx.low hb
            replace HG := HG.low hb
            replace HS := HS.trans (hb.mono HS.size)
            replace HS55 := HS55.low hb
            replace H1 := own_below H1 hb (Nat.le_refl _)
            replace HL2 := own_below HL2 hb (Nat.le_refl _)
            replace HB := HB.trans (hb.mono HB.size)
            clear hb
            clear HL2 HS55
            refine Fw.hNext HS ?_
            refine Fw.hTake 14 rfl rfl (by kernel_rfl) (by kernel_rfl) (by kernel_rfl) (Fw.yV (Fw.val_assign rfl)) rfl ?_
            refine Fw.hTake 15 rfl rfl (by kernel_rfl) (by kernel_rfl) (by kernel_rfl) (Fw.yV (Fw.val_assign rfl)) rfl ?_
            refine Fw.hDone (by kernel_rfl) ?_
            exact hK19 _ _ ⟨A1, c1, d1, A2, c2, d2⟩ ⟨Hn, Hx, HG, (Rd.of_own H1), (Rd.of_own H2), ⟨hd1, Rg.src_one ht1⟩, ⟨hd2, Rg.src_one ht2⟩, HB⟩ (.cons rfl (.cons rfl (.cons rfl (.cons rfl (.cons rfl (.cons rfl .nil))))))
        · skip
          refine Fw.hOp 12 rfl ?_
          refine Fw.buildSlice [_] sl26 rfl rfl (by exact Fw.allSz rfl) (by decide) rfl ?_
          intro w63 gS55 egS55 HS55 hb
          have rgS55 : w5.heap.size ≤ gS55 := by have := HS.size; omega
          have n_gn_gS55 : gn < gS55 := by have := Hn.lt; omega
          have n_gx_gS55 : gx < gS55 := by have := Hx.lt; omega
          have lgS55 : w.heap.size ≤ gS55 := by have := HB.size; omega
          replace Hn := Hn.low hb
          replace Hx := Hx.low hb
          replace HG := HG.low hb
          replace HS := HS.trans (hb.mono HS.size)
          replace HB := HB.trans (hb.mono HB.size)
          clear hb
          clear egS55
          refine Fw.hNext HS ?_
          refine Fw.hAll2 2 5 (by kernel_rfl) ?_ ?_
          · skip
            refine Fw.hOp 2 rfl ?_
            refine Fw.call cf16 rfl rfl (longs_any _ A ts c (h.low HB) (by omega)) ?_
            rintro e_ w64 ⟨AL1, cL1, rfl, HL1, hb⟩
            refine ⟨_, rfl, ?_⟩
            replace Hn := Hn.low hb
            replace Hx := Hx.low hb
            replace HG := HG.low hb
            replace HS := HS.trans (hb.mono HS.size)
            replace HS55 := HS55.low hb
            replace HB := HB.trans (hb.mono HB.size)
            clear hb
            refine Fw.hNext HS ?_
            refine Fw.hAll1 5 (by kernel_rfl) ?_
            refine Fw.hOp 5 rfl ?_
            refine Fw.buildSlice [_] sl26 rfl rfl (by exact Fw.allSz rfl) (by decide) rfl ?_
            intro w65 gS48 egS48 HS48 hb
            have rgS48 : w5.heap.size ≤ gS48 := by have := HS.size; omega
            have n_gn_gS48 : gn < gS48 := by have := Hn.lt; omega
            have n_gx_gS48 : gx < gS48 := by have := Hx.lt; omega
            have n_gS55_gS48 : gS55 < gS48 := by have := HS55.lt; omega
            have lgS48 : w.heap.size ≤ gS48 := by have := HB.size; omega
            replace Hn := Hn.low hb
            replace Hx := Hx.low hb
            replace HG := HG.low hb
            replace HS := HS.trans (hb.mono HS.size)
            replace HS55 := HS55.low hb
            replace HL1 := own_below HL1 hb (Nat.le_refl _)
            replace HB := HB.trans (hb.mono HB.size)
            clear hb
            clear egS48
            refine Fw.hNext HS ?_
            refine Fw.hAll1 6 (by kernel_rfl) ?_
            refine Fw.hOp 6 rfl ?_
            refine Fw.call cf15 rfl rfl (from_any _ g N E HG (by omega) (by omega) hn.ok AL1 ts cL1 (Rd.of_own HL1) (some ⟨gS48, 0, none⟩) [(x : Int)] 1 (show (1 : Nat) ≤ 65536 by decide) (Fw.rdBlk HS48)) ?_
            rintro e_ w66 ⟨A1, c1, d1, rfl, H1, hd1, ht1, hb⟩
            refine ⟨_, rfl, ?_⟩
            replace Hn := Hn.low hb
            replace Hx := Hx.low hb
            replace HG := HG.low hb
            replace HS := HS.trans (hb.mono HS.size)
            replace HS55 := HS55.low hb
            replace HL1 := own_below HL1 hb (Nat.le_refl _)
            replace HS48 := HS48.low hb
            replace HB := HB.trans (hb.mono HB.size)
            clear hb
            clear HL1 HS48
            refine Fw.hNext HS ?_
            refine Fw.hAll1 9 (by kernel_rfl) ?_
            refine Fw.hOp 9 rfl ?_
            refine Fw.call cf16 rfl rfl (longs_any _ A ts c (h.low HB) (by omega)) ?_
            rintro e_ w67 ⟨AL2, cL2, rfl, HL2, hb⟩
            refine ⟨_, rfl, ?_⟩
            replace Hn := Hn.low hb
            replace Hx := Hx.low hb
            replace HG := HG.low hb
            replace HS := HS.trans (hb.mono HS.size)
            replace HS55 := HS55.low hb
            replace H1 := own_below H1 hb (Nat.le_refl _)
            replace HB := HB.trans (hb.mono HB.size)
            clear hb
            refine Fw.hNext HS ?_
            refine Fw.hAll1 13 (by kernel_rfl) ?_
            refine Fw.hOp 13 rfl ?_
            refine Fw.call cf15 rfl rfl (from_any _ g N E HG (by omega) (by omega) hn.ok AL2 ts cL2 (Rd.of_own HL2) (some ⟨gS55, 0, none⟩) [(y : Int)] 1 (show (1 : Nat) ≤ 65536 by decide) (Fw.rdBlk HS55)) ?_
            rintro e_ w68 ⟨A2, c2, d2, rfl, H2, hd2, ht2, hb⟩
            refine ⟨_, rfl, ?_⟩
            replace Hn := Hn.low hb
            replace Hx := Hx.low hb
            replace HG := HG.low hb
            replace HS := HS.trans (hb.mono HS.size)
            replace HS55 := HS55.low hb
            replace H1 := own_below H1 hb (Nat.le_refl _)
            replace HL2 := own_below HL2 hb (Nat.le_refl _)
            replace HB := HB.trans (hb.mono HB.size)
            clear hb
            clear HL2 HS55
            refine Fw.hNext HS ?_
            refine Fw.hTake 14 rfl rfl (by kernel_rfl) (by kernel_rfl) (by kernel_rfl) (Fw.yV (Fw.val_assign rfl)) rfl ?_
            refine Fw.hTake 15 rfl rfl (by kernel_rfl) (by kernel_rfl) (by kernel_rfl) (Fw.yV (Fw.val_assign rfl)) rfl ?_
            refine Fw.hDone (by kernel_rfl) ?_
            exact hK19 _ _ ⟨A1, c1, d1, A2, c2, d2⟩ ⟨Hn, Hx, HG, (Rd.of_own H1), (Rd.of_own H2), ⟨hd1, Rg.src_one ht1⟩, ⟨hd2, Rg.src_one ht2⟩, HB⟩ (.cons rfl (.cons rfl (.cons rfl (.cons rfl (.cons rfl (.cons rfl .nil))))))
          · skip
            refine Fw.hOp 5 rfl ?_
            refine Fw.buildSlice [_] sl26 rfl rfl (by exact Fw.allSz rfl) (by decide) rfl ?_
            intro w69 gS48 egS48 HS48 hb
            have rgS48 : w5.heap.size ≤ gS48 := by have := HS.size; omega
            have n_gn_gS48 : gn < gS48 := by have := Hn.lt; omega
            have n_gx_gS48 : gx < gS48 := by have := Hx.lt; omega
            have n_gS55_gS48 : gS55 < gS48 := by have := HS55.lt; omega
            have lgS48 : w.heap.size ≤ gS48 := by have := HB.size; omega
            replace Hn := Hn.low hb
            replace Hx := Hx.low hb
            replace HG := HG.low hb
            replace HS := HS.trans (hb.mono HS.size)
            replace HS55 := HS55.low hb
            replace HB := HB.trans (hb.mono HB.size)
            clear hb
            clear egS48
            refine Fw.hNext HS ?_
            refine Fw.hAll1 2 (by kernel_rfl) ?_
            refine Fw.hOp 2 rfl ?_
            refine Fw.call cf16 rfl rfl (longs_any _ A ts c (h.low HB) (by omega)) ?_
            rintro e_ w70 ⟨AL1, cL1, rfl, HL1, hb⟩
            refine ⟨_, rfl, ?_⟩
            replace Hn := Hn.low hb
            replace Hx := Hx.low hb
            replace HG := HG.low hb
            replace HS := HS.trans (hb.mono HS.size)
            replace HS55 := HS55.low hb
            replace HS48 := HS48.low hb
            replace HB := HB.trans (hb.mono HB.size)
            clear hb
            refine Fw.hNext HS ?_
            refine Fw.hAll1 6 (by kernel_rfl) ?_
            refine Fw.hOp 6 rfl ?_
            refine Fw.call cf15 rfl rfl (from_any _ g N E HG (by omega) (by omega) hn.ok AL1 ts cL1 (Rd.of_own HL1) (some ⟨gS48, 0, none⟩) [(x : Int)] 1 (show (1 : Nat) ≤ 65536 by decide) (Fw.rdBlk HS48)) ?_
            rintro e_ w71 ⟨A1, c1, d1, rfl, H1, hd1, ht1, hb⟩
            refine ⟨_, rfl, ?_⟩
            replace Hn := Hn.low hb
            replace Hx := Hx.low hb
            replace HG := HG.low hb
            replace HS := HS.trans (hb.mono HS.size)
            replace HS55 := HS55.low hb
            replace HS48 := HS48.low hb
            replace HL1 := own_below HL1 hb (Nat.le_refl _)
            replace HB := HB.trans (hb.mono HB.size)
            clear hb
            clear HL1 HS48
            refine Fw.hNext HS ?_
            refine Fw.hAll1 9 (by kernel_rfl) ?_
            refine Fw.hOp 9 rfl ?_
            refine Fw.call cf16 rfl rfl (longs_any _ A ts c (h.low HB) (by omega)) ?_
            rintro e_ w72 ⟨AL2, cL2, rfl, HL2, hb⟩
            refine ⟨_, rfl, ?_⟩
            replace Hn := Hn.low hb
            replace Hx := Hx.low hb
            replace HG := HG.low hb
            replace HS := HS.trans (hb.mono HS.size)
            replace HS55 := HS55.low hb
            replace H1 := own_below H1 hb (Nat.le_refl _)
            replace HB := HB.trans (hb.mono HB.size)
            clear hb
            refine Fw.hNext HS ?_
            refine Fw.hAll1 13 (by kernel_rfl) ?_
            refine Fw.hOp 13 rfl ?_
            refine Fw.call cf15 rfl rfl (from_any _ g N E HG (by omega) (by omega) hn.ok AL2 ts cL2 (Rd.of_own HL2) (some ⟨gS55, 0, none⟩) [(y : Int)] 1 (show (1 : Nat) ≤ 65536 by decide) (Fw.rdBlk HS55)) ?_
            rintro e_ w73 ⟨A2, c2, d2, rfl, H2, hd2, ht2, hb⟩
            refine ⟨_, rfl, ?_⟩
            replace Hn := Hn.low hb
            replace Hx := Hx.low hb
            replace HG := HG.low hb
            replace HS := HS.trans (hb.mono HS.size)
            replace HS55 := HS55.low hb
            replace H1 := own_below H1 hb (Nat.le_refl _)
            replace HL2 := own_below HL2 hb (Nat.le_refl _)
            replace HB := HB.trans (hb.mono HB.size)
            clear hb
            clear HL2 HS55
            refine Fw.hNext HS ?_
            refine Fw.hTake 14 rfl rfl (by kernel_rfl) (by kernel_rfl) (by kernel_rfl) (Fw.yV (Fw.val_assign rfl)) rfl ?_
            refine Fw.hTake 15 rfl rfl (by kernel_rfl) (by kernel_rfl) (by kernel_rfl) (Fw.yV (Fw.val_assign rfl)) rfl ?_
            refine Fw.hDone (by kernel_rfl) ?_
            exact hK19 _ _ ⟨A1, c1, d1, A2, c2, d2⟩ ⟨Hn, Hx, HG, (Rd.of_own H1), (Rd.of_own H2), ⟨hd1, Rg.src_one ht1⟩, ⟨hd2, Rg.src_one ht2⟩, HB⟩ (.cons rfl (.cons rfl (.cons rfl (.cons rfl (.cons rfl (.cons rfl .nil))))))
  · rintro hf
    refine Fw.gT (d := 24) rfl rfl ?_
    refine Fw.s (Fw.val_not rfl) rfl ?_
    refine Fw.s (Fw.val_pickF rfl rfl) rfl ?_
    refine Fw.nil ?_
    refine hK4 _ _ (Fw.FC.sub (f' := [(28, _), (7, _), (5, _), (3, _), (1, _)]) (.cons rfl (.cons rfl (.cons rfl (.cons rfl (.cons rfl .nil))))) ?_)
    refine Fw.condT rfl ?_
    refine Fw.seq fun _ hK47 => ?_
    refine Fw.region ?_
    refine Fw.call cf12 rfl rfl (lawake_any _) ?_
    rintro e_ w74 ⟨rfl, hb⟩
    refine ⟨_, rfl, ?_⟩
    replace Hn := Hn.low hb
    replace Hx := Hx.low hb
    replace HG := HG.low hb
    replace HB := HB.trans (hb.mono HB.size)
    clear hb
    refine Fw.s (Fw.val_assign rfl) rfl ?_
    refine Fw.nil ?_
    refine hK47 _ _ ?_
    refine Fw.ret ?_
    refine Fw.X_ret ?_
    refine Fw.ret_ [.tmp 6] [_] Try.results10 (.tmp rfl .nil) ?_
    exact ⟨rfl, HB⟩

end Go.Proofs.Ytenljoccfjlncaa
