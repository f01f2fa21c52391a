/- TopElects. -/
import Derived.Test.YtgpdodhegacndaaTe
import Derived.Test.YtgpdodhegacndaaGr
namespace Go.Proofs.Ytgpdodhegacndaa
set_option linter.unusedSimpArgs false
set_option linter.unusedVariables false
open Go.RowKit

set_option maxRecDepth 100000 in
set_option maxHeartbeats 4000000 in
theorem elects_any (w : World) (Al : Option Addr) (l : List El.Pl) (cl : Nat) (hl : Rd w Al (l.flatMap El.Pl.cells)) (hlb : ∀ q ∈ l, El.Pl.ok q) (Ax : Option Addr) (nx : List Int) (cx : Nat) (hx : Rd w Ax (nx.map (.int .i64))) : Calls Try.prog 3 #[.slice Al l.length cl, .slice Ax nx.length cx] w fun e_ w' => e_ = .returned (.bool true) ∧ Below w.heap.size w w' := by
  refine Fw.calls Try.func3 rfl Try.ntmps3 rfl ?_
  have HB := Below.refl (w.heap.size) w
  refine Fw.seq fun _ hK1 => ?_
  refine Fw.region ?_
  refine Fw.s (Fw.val_assign rfl) rfl ?_
  refine Fw.nil ?_
  refine hK1 _ _ ?_
  refine Fw.seq fun _ hK2 => ?_
  refine Fw.seq fun _ hK3 => ?_
  refine Fw.region ?_
  refine Fw.call cf4 rfl rfl (awakeE_any _) ?_
  rintro e_ _ ⟨rfl, rfl⟩
  refine ⟨_, rfl, ?_⟩
  refine Fw.s (Fw.val_not rfl) rfl ?_
  refine Fw.nil ?_
  refine hK3 _ _ ?_
  refine Fw.condF rfl ?_
  refine Fw.skip ?_
  refine hK2 _ _ ?_
  refine Fw.seq fun _ hK4 => ?_
  refine Fw.seq fun _ hK5 => ?_
  refine Fw.region ?_
  refine Fw.s (Fw.val_move rfl) rfl ?_
  refine Fw.s (Fw.val_len Try.underlying22 rfl) rfl ?_
  refine Fw.s2 (Fw.val_bin rfl rfl Fw.b_gtr) rfl ?_ ?_
  · rintro h60
    refine Fw.s (Fw.val_move rfl) rfl ?_
    refine Fw.gF (d := 30) rfl rfl rfl rfl ?_
    refine Fw.gF (d := 30) rfl rfl rfl rfl ?_
    refine Fw.gF (d := 30) rfl rfl rfl rfl ?_
    refine Fw.s (Fw.val_pickT rfl rfl) rfl ?_
    refine Fw.nil ?_
    refine hK5 _ _ (Fw.FC.sub (f' := [(34, _), (0, _), (1, _)]) (.cons rfl (.cons rfl (.cons rfl .nil))) ?_)
    refine Fw.condT rfl ?_
    refine Fw.seq fun _ hK7 => ?_
    refine Fw.region ?_
    refine Fw.s (Fw.val_assign rfl) rfl ?_
    refine Fw.nil ?_
    refine hK7 _ _ ?_
    refine Fw.ret ?_
    refine Fw.X_ret ?_
    refine Fw.ret_ [.tmp 4] [_] Try.results3 (.tmp rfl .nil) ?_
    exact ⟨rfl, HB⟩
  · rintro h60
    refine Fw.s (Fw.val_move rfl) rfl ?_
    refine Fw.gT (d := 30) rfl rfl ?_
    refine Fw.s (Fw.val_move rfl) rfl ?_
    refine Fw.gT (d := 30) rfl rfl ?_
    refine Fw.s (Fw.val_len Try.underlying23 rfl) rfl ?_
    refine Fw.gT (d := 30) rfl rfl ?_
    refine Fw.s2 (Fw.val_bin rfl rfl Fw.b_gtr) rfl ?_ ?_
    · rintro h9x
      refine Fw.s (Fw.val_pickF rfl rfl) rfl ?_
      refine Fw.nil ?_
      refine hK5 _ _ (Fw.FC.sub (f' := [(34, _), (0, _), (1, _)]) (.cons rfl (.cons rfl (.cons rfl .nil))) ?_)
      refine Fw.condT rfl ?_
      refine Fw.seq fun _ hK9 => ?_
      refine Fw.region ?_
      refine Fw.s (Fw.val_assign rfl) rfl ?_
      refine Fw.nil ?_
      refine hK9 _ _ ?_
      refine Fw.ret ?_
      refine Fw.X_ret ?_
      refine Fw.ret_ [.tmp 4] [_] Try.results3 (.tmp rfl .nil) ?_
      exact ⟨rfl, HB⟩
    · rintro h9x
      refine Fw.s (Fw.val_pickF rfl rfl) rfl ?_
      refine Fw.nil ?_
      refine hK5 _ _ (Fw.FC.sub (f' := [(34, _), (0, _), (1, _)]) (.cons rfl (.cons rfl (.cons rfl .nil))) ?_)
      refine Fw.condF rfl ?_
      refine Fw.skip ?_
      refine hK4 _ _ ?_
      refine Fw.seq fun _ hK10 => ?_
      refine Fw.region ?_
      refine Fw.buildSlice [_, _, _] sl23 rfl rfl (by exact Fw.allSz rfl) (by decide) rfl ?_
      intro w1 gS35 egS35 HS35 hb
      have lgS35 : w.heap.size ≤ gS35 := by have := HB.size; omega
      replace HB := HB.trans (hb.mono HB.size)
      clear hb
      clear egS35
      refine Fw.s (Fw.val_build (ps := [(0, _)]) rfl (bu26_0 _ _ _)) rfl ?_
      refine Fw.alloc ze26 rfl ?_
      intro w2 gP egP HP hb
      have n_gS35_gP : gS35 < gP := by have := HS35.lt; omega
      have lgP : w.heap.size ≤ gP := by have := HB.size; omega
      replace HS35 := HS35.low hb
      replace HB := HB.trans (hb.mono HB.size)
      clear hb
      clear egP
      refine Fw.storeW sz26 rfl rfl HP rfl rfl (by exact Fw.oneCells rfl) ?_
      intro w3 N_ hc
      replace HS35 := HS35.chg hc (by omega)
      replace HB := HB.trans (hc.below (B := w.heap.size) (fun k e => by omega) HB.size)
      clear hc
      clear HP
      have HP := N_
      clear N_
      replace HP : Blk w3 gP 26 #[.slice (some ⟨gS35, 0, none⟩) 3 3, .slice none 0 0] := HP
      refine Fw.nil ?_
      refine hK10 _ _ ?_
      refine Fw.seq fun _ hK11 => ?_
      refine Fw.region ?_
      refine Fw.ldA ag26 rfl (Fw.rdBlk HP) rfl rfl ?_
      refine Fw.s (Fw.val_move rfl) rfl ?_
      refine Fw.call cf5 rfl rfl (begin_any _ (some ⟨gS35, 0, none⟩) ([0, 1, 2] : List Int) 3 (Fw.rdBlk HS35) (by decide) El.ml3 Ax nx cx (hx.low HB) (by omega)) ?_
      rintro e_ w4 ⟨A1, n1, c1, A2, n2, c2, eb, rfl, hbg, hb⟩
      refine ⟨_, rfl, ?_⟩
      replace HS35 := HS35.low hb
      replace HP := HP.low hb
      replace HB := HB.trans (hb.mono HB.size)
      clear hb
      have HB6 := Below.refl (w4.heap.size) w4
      refine Fw.s (Fw.val_move rfl) rfl ?_
      refine Fw.s (Fw.val_extract rfl rfl) rfl ?_
      refine Fw.s (Fw.val_extract rfl rfl) rfl ?_
      refine Fw.alloc ze26 rfl ?_
      intro w5 gJ egJ HJ hb
      have l6gJ : w4.heap.size ≤ gJ := by have := HB6.size; omega
      have n_gS35_gJ : gS35 < gJ := by have := HS35.lt; omega
      have n_gP_gJ : gP < gJ := by have := HP.lt; omega
      have lgJ : w.heap.size ≤ gJ := by have := HB.size; omega
      replace HS35 := HS35.low hb
      replace HP := HP.low hb
      replace HB6 := HB6.trans (hb.mono HB6.size)
      replace HB := HB.trans (hb.mono HB.size)
      clear hb
      clear egJ
      refine Fw.storeW sz26 rfl rfl HJ rfl rfl (by exact Fw.oneCells rfl) ?_
      intro w6 N_ hc
      replace HS35 := HS35.chg hc (by omega)
      replace HP := HP.chg hc (by omega)
      replace HB6 := HB6.trans (hc.below (fun k e => by omega) HB6.size)
      replace HB := HB.trans (hc.below (B := w.heap.size) (fun k e => by omega) HB.size)
      clear hc
      clear HJ
      have HJ := N_
      clear N_
      replace HJ : Blk w6 gJ 26 #[.slice A1 n1 c1, .slice A2 n2 c2] := HJ
      refine Fw.s (Fw.val_assign rfl) rfl ?_
      refine Fw.nil ?_
      refine hK11 _ _ (Fw.FC.sub (f' := [(7, _), (6, _), (5, _), (0, _)]) (.cons rfl (.cons rfl (.cons rfl (.cons rfl .nil)))) ?_)
      refine Fw.seq_cut [(0, .slice Al l.length cl), (5, .pointer (some ⟨gP, 0, none⟩)), (6, .pointer (some ⟨gJ, 0, none⟩))] (fun W_ => Blk W_ gP 26 #[.slice (some ⟨gS35, 0, none⟩) 3 3, .slice none 0 0] ∧ Blk W_ gS35 3 #[.int .i64 0, .int .i64 1, .int .i64 2] ∧ (∃ (A1 : Option Addr) (c1 : Nat) (A2 : Option Addr) (nw : List Int) (c2 : Nat), Blk W_ gJ 26 #[.slice A1 3 c1, .slice A2 nw.length c2] ∧ Rd W_ A1 (([0, 1, 2] : List Int).map (Value.int .i64)) ∧ Rd W_ A2 (nw.map (Value.int .i64)) ∧ nw.length ≤ 9) ∧ Below (w.heap.size) w W_) ?_ (fun _ hK12 => ?_)
      · rintro w7 ⟨HP, HS35, HJX, HB⟩
        refine Fw.seq fun _ hK13 => ?_
        obtain ⟨A1, c1, A2, nw, c2, HJ, HR1, HR2, hnw⟩ := HJX
        have hAo : Rd w7 (some ⟨gS35, 0, none⟩) (([0, 1, 2] : List Int).map (Value.int .i64)) := Fw.rdBlk HS35
        have hl0 := hl.low HB
        have HBw := HB
        clear HB
        have HB := Below.refl (w7.heap.size) w7
        refine Fw.region ?_
        refine Fw.alloc ze31 rfl ?_
        intro w8 gT egT HT hb
        have lgT : w7.heap.size ≤ gT := by have := HB.size; omega
        replace HB := HB.trans (hb.mono HB.size)
        clear hb
        clear egT
        refine Fw.nil ?_
        refine hK13 _ _ ?_
        refine Fw.seq fun _ hK14 => ?_
        refine Fw.region ?_
        refine Fw.alloc ze33 rfl ?_
        intro w9 gBx egBx HBx hb
        have n_gT_gBx : gT < gBx := by have := HT.lt; omega
        have lgBx : w7.heap.size ≤ gBx := by have := HB.size; omega
        replace HT := HT.low hb
        replace HB := HB.trans (hb.mono HB.size)
        clear hb
        clear egBx
        refine Fw.nil ?_
        refine hK14 _ _ ?_
        refine Fw.seq fun _ hK15 => ?_
        refine Fw.region ?_
        refine Fw.s (Fw.val_func rfl rfl) rfl ?_
        refine Fw.s (Fw.val_assign rfl) rfl ?_
        refine Fw.nil ?_
        refine hK15 _ _ ?_
        refine Fw.seq fun _ hK16 => ?_
        refine Fw.seq fun _ hK17 => ?_
        refine Fw.region ?_
        refine Fw.s (Fw.val_move rfl) rfl ?_
        refine Fw.nil ?_
        refine hK17 _ _ ?_
        refine Fw.block ?_
        have HVs : El.Vs w9 5 0 (gBx + 1) (fun _ => 9) (fun _ => 0) (fun _ => 0) (fun _ => []) := ⟨fun j hj => absurd hj (Nat.not_lt_zero _), by decide, fun _ _ => rfl, by have := HBx.lt; omega⟩
        refine Fw.loop (fun m_ f_ W_ => ∃ (k : Nat) (o : Nat → Nat) (tf : Nat → Nat) (rf : Nat → Nat) (cst : Array Value) (csb : Array Value), m_ = 5 - k ∧ k ≤ 5 ∧ (cst.size = 5 ∧ csb.size = 5) ∧ (∀ j, j < k → cst[j]? = some (El.pv (tf j))) ∧ (∀ j, j < k → csb[j]? = some (El.pv (rf j))) ∧ Blk W_ gT 31 cst ∧ Blk W_ gBx 33 csb ∧ El.Vs W_ 5 k (gBx + 1) o tf rf (fun _ => []) ∧ Below (w7.heap.size) w7 W_ ∧ f_ = [(47, .int .i64 k), (10, .func (.func 6) #[] #[.pointer (some ⟨gT, 0, none⟩), .pointer (some ⟨gBx, 0, none⟩)]), (9, .pointer (some ⟨gBx, 0, none⟩)), (8, .pointer (some ⟨gT, 0, none⟩)), (0, .slice Al l.length cl), (5, .pointer (some ⟨gP, 0, none⟩)), (6, .pointer (some ⟨gJ, 0, none⟩))]) ⟨_, _, ⟨0, fun _ => 9, fun _ => 0, fun _ => 0, _, _, rfl, Nat.zero_le _, ⟨rfl, rfl⟩, (fun j hj => by omega), (fun j hj => by omega), HT, HBx, HVs, HB, rfl⟩, (.cons rfl (.cons rfl (.cons rfl (.cons rfl (.cons rfl (.cons rfl (.cons rfl .nil)))))))⟩ ?_
        clear HT HBx HVs HB
        rintro m18_ _ w10 ⟨k, o, tf, rf, cst, csb, hm18_, hk, hs5, hcT, hcB, HT, HBx, HVs, HB, rfl⟩
        refine Fw.seq fun _ hK19 => ?_
        refine Fw.region ?_
        refine Fw.s2 (Fw.val_bin rfl rfl Fw.b_lss) rfl ?_ ?_
        · rintro hk3
          refine Fw.nil ?_
          refine hK19 _ _ ?_
          refine Fw.seq fun _ hK21 => ?_
          refine Fw.condT rfl ?_
          refine Fw.skip ?_
          refine hK21 _ _ ?_
          refine Fw.seq fun _ hK22 => ?_
          refine Fw.block ?_
          refine Fw.seq fun _ hK23 => ?_
          have hk5 : k < 5 := by omega
          refine Fw.region ?_
          refine Fw.s (Fw.val_move rfl) rfl ?_
          refine Fw.s (Fw.val_assign rfl) rfl ?_
          refine Fw.nil ?_
          refine hK23 _ _ ?_
          refine Fw.seq fun _ hK24 => ?_
          refine Fw.region ?_
          refine Fw.s (Fw.val_move rfl) rfl ?_
          refine Fw.call cf9 rfl rfl (Vr.newV_any _ o k) ?_
          rintro e_ w11 ⟨pf, rfl, HF, hb⟩
          refine ⟨_, rfl, ?_⟩
          replace HVs := ((HVs.off k).own (o' := Vr.up o w10.heap.size k) (fun x hx => Vr.up_lt hx)).low hb
          replace HT := HT.low hb
          replace HBx := HBx.low hb
          replace HB := HB.trans (hb.mono HB.size)
          clear hb
          obtain ⟨o1, ho1⟩ : ∃ o1, o1 = Vr.up o w10.heap.size k := ⟨_, rfl⟩
          rw [← ho1] at HVs HF
          clear ho1
          refine Fw.s (Fw.val_indexP (m := k) Try.underlying31 sz30 rfl rfl rfl hk5 (by rw [Nat.zero_add, Nat.mul_one])) rfl ?_
          refine Fw.store sz30 rfl rfl HT (by simp; omega) rfl rfl ?_
          intro w12 N_ hc
          replace HBx := HBx.chg hc (by omega)
          replace HVs := HVs.keep hc (fun x hx => by rw [hx]; exact .inr (HVs.hO _ (by omega)))
          replace HF := HF.keep hc (fun x hx e => by rw [e] at hx; have := HVs.hO gT (by omega); omega)
          replace HB := HB.trans (hc.below (B := w7.heap.size) (fun k e => by omega) HB.size)
          clear hc
          clear HT
          have HT := N_
          clear N_
          refine Fw.nil ?_
          refine hK24 _ _ ?_
          refine Fw.seq fun _ hK25 => ?_
          refine Fw.region ?_
          refine Fw.s (Fw.val_move rfl) rfl ?_
          refine Fw.s (Fw.val_indexP (m := k) Try.underlying31 sz30 rfl rfl rfl hk5 (by rw [Nat.zero_add, Nat.mul_one])) rfl ?_
          refine Fw.ld sc30 rfl ((HT.cell k).trans (El.arr_same (by omega))) rfl ?_
          refine Fw.s (Fw.val_bin rfl rfl (Fw.b_nilP Try.underlying30)) rfl ?_
          refine Fw.s (Fw.val_move rfl) rfl ?_
          refine Fw.gT (d := 57) rfl rfl ?_
          refine Fw.s (Fw.val_move rfl) rfl ?_
          refine Fw.gT (d := 57) rfl rfl ?_
          refine Fw.s (Fw.val_move rfl) rfl ?_
          refine Fw.gT (d := 57) rfl rfl ?_
          refine Fw.callV cf6 rfl rfl rfl rfl (openC_any _ o1 k pf gT gBx _ csb [] hk5 HT (El.arr_same (by omega)) HBx hs5.2 (by have := HVs.hO gT (by omega); omega) (by have := HVs.hO gBx (by omega); omega) HF) ?_
          rintro e_ w13 ⟨r, rfl, HV, HBn, hcO⟩
          refine ⟨_, rfl, ?_⟩
          have HVs2 := (HVs.turn hcO (by omega)).tapes (tf' := El.upd tf k pf) (fun j _ hj => El.upd_ne _ _ hj)
          have HVs3 := HVs2.set (K' := k + 1) (r := r) (V' := []) (fun j _ _ => by omega) (by omega) (by rw [El.upd_same]; exact HV)
          rw [El.upd_nil] at HVs3
          replace HT := HT.chg hcO (fun e => by have := HVs.hO gT (by omega); rcases e with h_ | h_ <;> omega)
          replace HB := HB.trans (hcO.below (fun x e => by rcases e with h_ | h_; exact Classical.byContradiction fun h9 => (by have := HVs.hO x (by omega); omega); omega) HB.size)
          clear HVs HVs2 HV HF HBx hcO
          have HVs := HVs3
          have HBx := HBn
          clear HVs3 HBn
          refine Fw.gT (d := 57) rfl rfl ?_
          refine Fw.s (Fw.val_not rfl) rfl ?_
          refine Fw.s (Fw.val_pickF rfl rfl) rfl ?_
          refine Fw.nil ?_
          refine hK25 _ _ (Fw.FC.sub (f' := [(62, _), (61, _), (60, _), (59, _), (58, _), (47, _), (10, _), (9, _), (8, _), (0, _), (5, _), (6, _)]) (.cons rfl (.cons rfl (.cons rfl (.cons rfl (.cons rfl (.cons rfl (.cons rfl (.cons rfl (.cons rfl (.cons rfl (.cons rfl (.cons rfl .nil)))))))))))) ?_)
          refine Fw.condF rfl ?_
          refine Fw.skip ?_
          refine Fw.X_blockN (id := 1) ?_
          refine hK22 _ _ ?_
          refine Fw.region ?_
          refine Fw.s (Fw.val_bin rfl rfl (Fw.b_add (Fw.i64_ok (by omega)))) rfl ?_
          refine Fw.s (Fw.val_move rfl) rfl ?_
          refine Fw.nil ?_
          refine Fw.roundEnd _ _ (by omega) ⟨k + 1, _, El.upd tf k pf, El.upd rf k r, cst.setIfInBounds k (.pointer (some ⟨pf, 0, none⟩)), csb.setIfInBounds k (.pointer (some ⟨r, 0, none⟩)), rfl, by omega, by simp; exact hs5, El.arr_upd (K := k) (by omega) (fun j _ _ => by omega) hcT, El.arr_upd (K := k) (by omega) (fun j _ _ => by omega) hcB, HT, HBx, HVs, HB, rfl⟩ (.cons rfl (.cons rfl (.cons rfl (.cons rfl (.cons rfl (.cons rfl (.cons rfl .nil)))))))
        · rintro hk3
          refine Fw.nil ?_
          refine hK19 _ _ ?_
          refine Fw.seq fun _ hK26 => ?_
          refine Fw.condF rfl ?_
          refine Fw.exit ?_
          refine Fw.X_exit ?_
          refine Fw.X_exit ?_
          refine Fw.X_block ?_
          refine hK16 _ _ ?_
          refine Fw.seq fun _ hK27 => ?_
          refine Fw.region ?_
          obtain rfl : k = 5 := by omega
          refine Mp.makeMap (k := 2) (q := .i64) rfl ?_
          intro w14 gM egM HMo hb
          have lgM : w7.heap.size ≤ gM := by have := HB.size; omega
          have hgM : (gBx + 1) ≤ gM := by have := HBx.lt; omega
          have hoM : Vr.up o w10.heap.size 9 gM = 9 := Vr.up_ge (by omega)
          replace HVs := (HVs.own (o' := Vr.up o w10.heap.size 9) (fun x hx => Vr.up_lt hx)).low hb
          replace HT := HT.low hb
          replace HBx := HBx.low hb
          replace HB := HB.trans (hb.mono HB.size)
          clear hb
          have HSx := El.Sx.start HVs HMo hgM hoM
          clear HVs HMo hoM egM
          have hs5b := hs5.2
          refine Fw.s (Fw.val_assign rfl) rfl ?_
          refine Fw.nil ?_
          refine hK27 _ _ ?_
          refine Fw.seq fun _ hK28 => ?_
          refine Fw.seq fun _ hK29 => ?_
          refine Fw.region ?_
          refine Fw.s (Fw.val_move rfl) rfl ?_
          refine Fw.s (Fw.val_len Try.underlying22 rfl) rfl ?_
          refine Fw.s (Fw.val_move rfl) rfl ?_
          refine Fw.nil ?_
          refine hK29 _ _ ?_
          refine Fw.block ?_
          clear hs5
          refine Fw.loop (fun m_ f_ W_ => ∃ (n : Nat) (o : Nat → Nat) (rf : Nat → Nat) (Vf : Nat → List (Int × Int)) (csb : Array Value) (G : Int → List (Int × Int)) (A : Int → Option Addr) (c : Int → Nat), m_ = l.length - n ∧ n ≤ l.length ∧ csb.size = 5 ∧ (∀ j, j < 5 → csb[j]? = some (El.pv (rf j))) ∧ Blk W_ gT 31 cst ∧ Blk W_ gBx 33 csb ∧ El.Sx W_ 5 (gBx + 1) gM o tf rf Vf G A c n ∧ Below (w7.heap.size) w7 W_ ∧ f_ = [(67, .int .i64 n), (66, .int .i64 l.length), (65, .slice Al l.length cl), (12, .map (some gM)), (10, .func (.func 6) #[] #[.pointer (some ⟨gT, 0, none⟩), .pointer (some ⟨gBx, 0, none⟩)]), (9, .pointer (some ⟨gBx, 0, none⟩)), (8, .pointer (some ⟨gT, 0, none⟩)), (5, .pointer (some ⟨gP, 0, none⟩)), (6, .pointer (some ⟨gJ, 0, none⟩))]) ⟨_, _, ⟨0, _, _, _, csb, _, _, _, rfl, Nat.zero_le _, hs5b, hcB, HT, HBx, HSx, HB, rfl⟩, (.cons rfl (.cons rfl (.cons rfl (.cons rfl (.cons rfl (.cons rfl (.cons rfl (.cons rfl (.cons rfl .nil)))))))))⟩ ?_
          clear HT HBx HSx HB
          rintro m30_ _ w15 ⟨n, o, rf, Vf, csb, G, A, c, hm30_, hn, hs5b, hcB, HT, HBx, HSx, HB, rfl⟩
          refine Fw.seq fun _ hK31 => ?_
          refine Fw.region ?_
          refine Fw.s2 (Fw.val_bin rfl rfl Fw.b_lss) rfl ?_ ?_
          · rintro hn3
            refine Fw.nil ?_
            refine hK31 _ _ ?_
            refine Fw.seq fun _ hK33 => ?_
            refine Fw.condT rfl ?_
            refine Fw.skip ?_
            refine hK33 _ _ ?_
            refine Fw.seq fun _ hK34 => ?_
            refine Fw.block ?_
            refine Fw.seq fun _ hK35 => ?_
            have hn2 : n < l.length := by omega
            obtain ⟨hq1, hq2, hq3, hq4⟩ := hlb _ (List.getElem_mem hn2)
            obtain ⟨ad, b_, o_, hA, hadd, HLe⟩ := Fw.rdAt El.Pl.len (by decide) hl0 n hn2
            refine Fw.region ?_
            refine Fw.s (Fw.val_indexR Try.underlying22 sz43 rfl hA rfl rfl hn2 hadd) rfl ?_
            refine Fw.ldA ag43 rfl ((HLe.low HB)) rfl rfl ?_
            refine Fw.alloc ze43 rfl ?_
            intro w16 gPp egPp HPp hb
            have ho14 : Vr.up o w15.heap.size 9 gPp = 9 := Vr.up_ge (by omega)
            have n_gT_gPp : gT < gPp := by have := HT.lt; omega
            have n_gBx_gPp : gBx < gPp := by have := HBx.lt; omega
            have lgPp : w7.heap.size ≤ gPp := by have := HB.size; omega
            replace HT := HT.low hb
            replace HBx := HBx.low hb
            replace HSx := (HSx.own (o' := Vr.up o w15.heap.size 9) (fun x hx => Vr.up_lt hx)).low hb
            replace HB := HB.trans (hb.mono HB.size)
            clear hb
            clear egPp
            refine Fw.storeW sz43 rfl rfl HPp rfl rfl (by exact Fw.oneCells rfl) ?_
            intro w17 N_ hc
            replace HT := HT.chg hc (by omega)
            replace HBx := HBx.chg hc (by omega)
            replace HSx := HSx.box HPp (by decide) hc ho14
            replace HB := HB.trans (hc.below (B := w7.heap.size) (fun k e => by omega) HB.size)
            clear hc
            clear HPp
            have HPp := N_
            clear N_
            replace HPp : Blk w17 gPp 43 #[.int .u8 l[n].who, .int .u8 l[n].fr, .int .u8 l[n].tm, .bool l[n].down, .int .u8 l[n].keep] := HPp
            refine Fw.nil ?_
            refine hK35 _ _ ?_
            refine Fw.seq fun _ hK37 => ?_
            obtain ⟨o1, ho1⟩ : ∃ o1, o1 = Vr.up o w15.heap.size 9 := ⟨_, rfl⟩
            rw [← ho1] at HSx ho14
            clear ho1
            obtain ⟨i, hi5, hie⟩ := El.mod5 hq1.1
            refine Fw.region ?_
            refine Fw.s (Fw.val_fieldAddr fl43_0 rfl rfl) rfl ?_
            refine Fw.ld sc5 rfl (HPp.cell 0) rfl ?_
            refine Fw.s (Fw.val_conv Try.underlying5 Try.underlying3 rfl (Fw.i64_ok (by omega))) rfl ?_
            refine Fw.s (Fw.val_bin rfl rfl (Fw.b_rem (by decide) hie)) rfl ?_
            refine Fw.s (Fw.val_assign rfl) rfl ?_
            refine Fw.nil ?_
            refine hK37 _ _ (Fw.FC.sub (f' := [(15, _), (14, _), (67, _), (66, _), (65, _), (12, _), (10, _), (9, _), (8, _), (5, _), (6, _)]) (.cons rfl (.cons rfl (.cons rfl (.cons rfl (.cons rfl (.cons rfl (.cons rfl (.cons rfl (.cons rfl (.cons rfl (.cons rfl .nil))))))))))) ?_)
            refine Fw.seq fun _ hK38 => ?_
            refine Fw.seq fun _ hK39 => ?_
            refine Fw.region ?_
            refine Fw.s (Fw.val_fieldAddr fl43_3 rfl rfl) rfl ?_
            refine Fw.ld sc4 rfl (HPp.cell 3) rfl ?_
            refine Fw.b2 ?_ ?_
            · rintro hdn
              refine Fw.nil ?_
              refine hK39 _ _ ?_
              refine Fw.condT rfl ?_
              refine Fw.seq fun _ hK40 => ?_
              obtain ⟨HSe, HVi⟩ := HSx.open_ hi5
              have HF := HVi.fs
              clear HSx HVi
              refine Fw.regionL 6 (by kernel_rfl) ?_
              have R_HT := HT
              have R_HBx := HBx
              have R_HPp := HPp
              have R_HB := HB
              intro w18 hb
              have HS := hb
              replace HT := HT.low hb
              replace HBx := HBx.low hb
              replace HPp := HPp.low hb
              replace HSe := HSe.low hb
              replace HF := HF.keep (Chg.of_below hb (fun _ => False)) (fun _ _ h => h)
              replace HB := HB.trans (hb.mono HB.size)
              clear hb
              refine Fw.lTk 0 rfl rfl (Fw.yV (Fw.val_move rfl)) rfl ?_
              refine Fw.lTk 1 rfl rfl (Fw.yV (Fw.val_indexP (m := i) Try.underlying31 sz30 rfl rfl rfl hi5 (by rw [Nat.zero_add, Nat.mul_one]))) rfl ?_
              refine Fw.lTk 2 rfl rfl (Fw.yV (Fw.hLd sc30 rfl ((R_HT.cell i).trans (hcT i hi5)))) rfl ?_
              refine Fw.lTk 3 rfl rfl (Fw.yV (Fw.val_fieldAddr fl43_4 rfl rfl)) rfl ?_
              refine Fw.lTk 4 rfl rfl (Fw.yV (Fw.hLd sc5 rfl (R_HPp.cell 4))) rfl ?_
              refine Fw.lTk 5 rfl rfl (Fw.yV (Fw.val_conv Try.underlying5 Try.underlying3 rfl (Fw.i64_ok (by omega)))) rfl ?_
              refine Fw.lLast rfl (by kernel_rfl) (by kernel_rfl) ?_
              refine Fw.call cf10 rfl rfl (Vr.failV_any _ o1 i (tf i) (Vf i) l[n].keep 1 HF ⟨by omega, by omega⟩) ?_
              rintro e_ w19 ⟨rfl, HF2, hcF⟩
              refine ⟨_, rfl, ?_⟩
              have HSe2 := HSe.turn1 hi5 hcF
              replace HT := HT.chg hcF (by have := HSe.vs.hO gT (by omega); omega)
              replace HBx := HBx.chg hcF (by have := HSe.vs.hO gBx (by omega); omega)
              replace HB := HB.trans (hcF.below (fun x e => Classical.byContradiction fun h9 => (by have := HSe.vs.hO x (by omega); omega)) HB.size)
              obtain ⟨o2, ho2_⟩ : ∃ o_, o_ = Vr.up o1 w18.heap.size i := ⟨_, rfl⟩
              rw [← ho2_] at HSe2 HF2
              clear ho2_ HSe HF hcF
              have HSe := HSe2
              have HF := HF2
              clear HSe2 HF2
              refine Fw.nil ?_
              refine hK40 _ _ (Fw.FC.sub (f' := [(15, _), (67, _), (66, _), (65, _), (12, _), (10, _), (9, _), (8, _), (5, _), (6, _)]) (.cons rfl (.cons rfl (.cons rfl (.cons rfl (.cons rfl (.cons rfl (.cons rfl (.cons rfl (.cons rfl (.cons rfl .nil)))))))))) ?_)
              refine Fw.seq fun _ hK41 => ?_
              refine Fw.region ?_
              refine Fw.s (Fw.val_move rfl) rfl ?_
              refine Fw.s (Fw.val_indexP (m := i) Try.underlying31 sz30 rfl rfl rfl hi5 (by rw [Nat.zero_add, Nat.mul_one])) rfl ?_
              refine Fw.ld sc30 rfl ((HT.cell i).trans (hcT i hi5)) rfl ?_
              refine Fw.call cf11 rfl rfl (Vr.onV_any _ o2 i (tf i) (Vf i) HF) ?_
              rintro e_ w20 ⟨rfl, HF2, hcF⟩
              refine ⟨_, rfl, ?_⟩
              have HSe2 := HSe.turn1 hi5 hcF
              replace HT := HT.chg hcF (by have := HSe.vs.hO gT (by omega); omega)
              replace HBx := HBx.chg hcF (by have := HSe.vs.hO gBx (by omega); omega)
              replace HB := HB.trans (hcF.below (fun x e => Classical.byContradiction fun h9 => (by have := HSe.vs.hO x (by omega); omega)) HB.size)
              obtain ⟨o3, ho3_⟩ : ∃ o_, o_ = Vr.up o2 w19.heap.size i := ⟨_, rfl⟩
              rw [← ho3_] at HSe2 HF2
              clear ho3_ HSe HF hcF
              have HSe := HSe2
              have HF := HF2
              clear HSe2 HF2
              refine Fw.nil ?_
              refine hK41 _ _ ?_
              refine Fw.seq fun _ hK42 => ?_
              refine Fw.seq fun _ hK43 => ?_
              refine Fw.region ?_
              refine Fw.s (Fw.val_move rfl) rfl ?_
              refine Fw.s (Fw.val_move rfl) rfl ?_
              refine Fw.callV cf6 rfl rfl rfl rfl (openC_any _ o3 i (tf i) gT gBx _ csb (Vf i) hi5 HT (hcT i hi5) HBx hs5b (by have := HSe.vs.hO gT (by omega); omega) (by have := HSe.vs.hO gBx (by omega); omega) HF) ?_
              rintro e_ w21 ⟨r, rfl, HV, HBn, hcO⟩
              refine ⟨_, rfl, ?_⟩
              replace HT := HT.chg hcO (fun e => by have := HSe.vs.hO gT (by omega); rcases e with h_ | h_ <;> omega)
              have HSx := ((HSe.turn hi5 hcO (by omega)).set hi5 HV (fun x h_ => h_)).mono (Nat.le_succ n)
              replace HB := HB.trans (hcO.below (fun x e => by rcases e with h_ | h_; exact Classical.byContradiction fun h9 => (by have := HSe.vs.hO x (by omega); omega); omega) HB.size)
              clear HSe HV HF HBx hcO
              have HBx := HBn
              clear HBn
              refine Fw.s (Fw.val_not rfl) rfl ?_
              refine Fw.nil ?_
              refine hK43 _ _ (Fw.FC.sub (f' := [(91, _), (67, _), (66, _), (65, _), (12, _), (10, _), (9, _), (8, _), (5, _), (6, _)]) (.cons rfl (.cons rfl (.cons rfl (.cons rfl (.cons rfl (.cons rfl (.cons rfl (.cons rfl (.cons rfl (.cons rfl .nil)))))))))) ?_)
              refine Fw.condF rfl ?_
              refine Fw.skip ?_
              refine hK42 _ _ ?_
              refine Fw.exit ?_
              refine Fw.X_exit ?_
              refine Fw.X_block ?_
              refine hK34 _ _ ?_
              refine Fw.region ?_
              refine Fw.s (Fw.val_bin rfl rfl (Fw.b_add (Fw.i64_ok (by omega)))) rfl ?_
              refine Fw.s (Fw.val_move rfl) rfl ?_
              refine Fw.nil ?_
              refine Fw.roundEnd _ _ (by omega) ⟨n + 1, _, _, _, csb.setIfInBounds i (.pointer (some ⟨r, 0, none⟩)), _, _, _, rfl, by omega, by simp; exact hs5b, El.arr_upd (K := 5) (by omega) (fun j h_ _ => h_) hcB, HT, HBx, HSx, HB, rfl⟩ (.cons rfl (.cons rfl (.cons rfl (.cons rfl (.cons rfl (.cons rfl (.cons rfl (.cons rfl (.cons rfl .nil)))))))))
            · rintro hdn
              refine Fw.nil ?_
              refine hK39 _ _ ?_
              refine Fw.condF rfl ?_
              refine Fw.skip ?_
              refine hK38 _ _ ?_
              refine Fw.seq fun _ hK44 => ?_
              obtain ⟨t0, ht0, hte⟩ := El.mod4 hq3.1
              obtain ⟨nd, hnd, hde⟩ := El.mod3 hq2.1
              refine Fw.region ?_
              refine Fw.s (Fw.val_fieldAddr fl43_2 rfl rfl) rfl ?_
              refine Fw.ld sc5 rfl (HPp.cell 2) rfl ?_
              refine Fw.s (Fw.val_conv Try.underlying5 Try.underlying2 rfl (Fw.i64_ok (by omega))) rfl ?_
              refine Fw.s (Fw.val_bin rfl rfl (Fw.b_rem (by decide) hte)) rfl ?_
              refine Fw.s (Fw.val_bin rfl rfl (Fw.b_add (Fw.i64_ok (by omega)))) rfl ?_
              refine Fw.s (Fw.val_assign rfl) rfl ?_
              refine Fw.nil ?_
              refine hK44 _ _ (Fw.FC.sub (f' := [(16, _), (15, _), (14, _), (67, _), (66, _), (65, _), (12, _), (10, _), (9, _), (8, _), (5, _), (6, _)]) (.cons rfl (.cons rfl (.cons rfl (.cons rfl (.cons rfl (.cons rfl (.cons rfl (.cons rfl (.cons rfl (.cons rfl (.cons rfl (.cons rfl .nil)))))))))))) ?_)
              refine Fw.seq_cutE (α := Int × List (Int × Int) × (Nat → Nat)) (fun x_ => match x_ with | ⟨x, V2, o2⟩ => [(5, .pointer (some ⟨gP, 0, none⟩)), (6, .pointer (some ⟨gJ, 0, none⟩)), (8, .pointer (some ⟨gT, 0, none⟩)), (9, .pointer (some ⟨gBx, 0, none⟩)), (10, .func (.func 6) #[] #[.pointer (some ⟨gT, 0, none⟩), .pointer (some ⟨gBx, 0, none⟩)]), (12, .map (some gM)), (65, .slice Al l.length cl), (66, .int .i64 l.length), (67, .int .i64 n), (14, .pointer (some ⟨gPp, 0, none⟩)), (15, .int .i64 (i : Nat)), (16, .int .i64 (1 + t0)), (106, .bool (decide (x = 0)))]) (fun x_ W_ => match x_ with | ⟨x, V2, o2⟩ => Blk W_ gT 31 cst ∧ Blk W_ gBx 33 csb ∧ Blk W_ gPp 43 #[.int .u8 l[n].who, .int .u8 l[n].fr, .int .u8 l[n].tm, .bool l[n].down, .int .u8 l[n].keep] ∧ El.Sx W_ 5 (gBx + 1) gM o2 tf (El.upd rf i (rf i)) (El.upd Vf i V2) G A c n ∧ (x = 0 → ((1 + t0), nd) ∈ V2) ∧ Below (w7.heap.size) w7 W_) ?_ (fun _ hK45 => ?_)
              · rintro ⟨x, V2, o2⟩ w22 ⟨HT, HBx, HPp, HSx, hx2, HB⟩
                show Fw.FC _ _ _ _ _ [(5, .pointer (some ⟨gP, 0, none⟩)), (6, .pointer (some ⟨gJ, 0, none⟩)), (8, .pointer (some ⟨gT, 0, none⟩)), (9, .pointer (some ⟨gBx, 0, none⟩)), (10, .func (.func 6) #[] #[.pointer (some ⟨gT, 0, none⟩), .pointer (some ⟨gBx, 0, none⟩)]), (12, .map (some gM)), (65, .slice Al l.length cl), (66, .int .i64 l.length), (67, .int .i64 n), (14, .pointer (some ⟨gPp, 0, none⟩)), (15, .int .i64 (i : Nat)), (16, .int .i64 (1 + t0)), (106, .bool (decide (x = 0)))] _
                refine Fw.cond2 rfl ?_ ?_
                · intro hqx
                  refine Fw.region ?_
                  refine Fw.s (Fw.val_move rfl) rfl ?_
                  refine Fw.s (Fw.val_move rfl) rfl ?_
                  refine Fw.s (Fw.val_move rfl) rfl ?_
                  refine Fw.s (Fw.val_move rfl) rfl ?_
                  refine Fw.s (Mp.val_lookG (fun _ h_ => h_ ▸ HSx.gr.map) HSx.gr.nil Try.underlying2 Try.underlying41 Try.zeroValue46 rfl rfl (Mp.wf64 ⟨by omega, by omega⟩)) rfl ?_
                  refine Fw.s (Fw.val_move rfl) rfl ?_
                  refine Fw.s (Fw.val_fieldAddr fl43_1 rfl rfl) rfl ?_
                  refine Fw.ld sc5 rfl (HPp.cell 1) rfl ?_
                  refine Fw.s (Fw.val_conv Try.underlying5 Try.underlying3 rfl (Fw.i64_ok (by omega))) rfl ?_
                  refine Fw.s (Fw.val_bin rfl rfl (Fw.b_rem (by decide) hde)) rfl ?_
                  refine Fw.s (Fw.val_build (ps := [(0, _), (1, _)]) rfl (bu47_0_1 _ _)) rfl ?_
                  refine Fw.buildSlice [_] sl46 rfl rfl (by exact Fw.allSz rfl) (by decide) rfl ?_
                  intro w23 gS118 egS118 HS118 hb
                  have n_gT_gS118 : gT < gS118 := by have := HT.lt; omega
                  have n_gBx_gS118 : gBx < gS118 := by have := HBx.lt; omega
                  have n_gPp_gS118 : gPp < gS118 := by have := HPp.lt; omega
                  have lgS118 : w7.heap.size ≤ gS118 := by have := HB.size; omega
                  replace HT := HT.low hb
                  replace HBx := HBx.low hb
                  replace HPp := HPp.low hb
                  replace HSx := HSx.low hb
                  replace HB := HB.trans (hb.mono HB.size)
                  clear hb
                  clear egS118
                  have HRw : w23.ownsRow (gBx + 1) 47 2 (.slice (A (1 + t0)) (G (1 + t0)).length (c (1 + t0))) (G (1 + t0)).length ((G (1 + t0)).flatMap El.vc) := HSx.gr.row (1 + t0)
                  have hyl := HSx.len (1 + t0)
                  refine Fw.append (base := (gBx + 1)) (G (1 + t0) ++ [((i : Int), nd)]).length ((G (1 + t0) ++ [((i : Int), nd)]).flatMap El.vc) sl46 rfl rfl HRw (Fw.rdBlk HS118) rfl (by exact Fw.oneCells rfl) (by unfold maxLen; omega) (by have := HSx.vs.sz; omega) (by simp) (by rw [List.flatMap_append]; rfl) rfl ?_
                  intro A119 c119 w24 N119 hbb hcA hrowA
                  replace HT := HT.chg hcA (fun e => own_ne_blk HRw HT (by decide) e.symm)
                  replace HBx := HBx.chg hcA (fun e => own_ne_blk HRw HBx (by decide) e.symm)
                  have HMp := HSx.gr.map.chg hcA (HSx.gr.map.ne_own HRw)
                  replace HB := HB.trans (hbb.mono (by omega))
                  clear hbb HRw HS118
                  refine Mp.mapUpdate HMp Try.underlying2 Try.underlying41 (by unfold maxLen; omega) rfl rfl rfl (Mp.wf64 ⟨by omega, by omega⟩) ?_
                  intro w25 HM2 hc2
                  have HSx2 := HSx.vote hi5 (by rw [El.upd_same]; exact hx2 (of_decide_eq_true hqx)) rfl hcA N119 hrowA HM2 hc2
                  replace HT := HT.chg hc2 (fun e => HMp.ne_blk HT e.symm)
                  replace HBx := HBx.chg hc2 (fun e => HMp.ne_blk HBx e.symm)
                  replace HB := HB.trans (hc2.below (fun k e => by omega) HB.size)
                  clear HSx hcA N119 hrowA HM2 hc2 HMp
                  have HSx := HSx2
                  clear HSx2
                  refine Fw.nil ?_
                  refine Fw.X_blockN (id := 3) ?_
                  refine hK34 _ _ (Fw.FC.sub (f' := [(5, _), (6, _), (8, _), (9, _), (10, _), (12, _), (65, _), (66, _), (67, _)]) (.cons rfl (.cons rfl (.cons rfl (.cons rfl (.cons rfl (.cons rfl (.cons rfl (.cons rfl (.cons rfl .nil))))))))) ?_)
                  have hcB2 : ∀ j, j < 5 → csb[j]? = some (El.pv (El.upd rf i (rf i) j)) := fun j hj => by
                    by_cases he : j = i
                    · subst he; rw [El.upd_same]; exact hcB j hj
                    · rw [El.upd_ne _ _ he]; exact hcB j hj
                  refine Fw.region ?_
                  refine Fw.s (Fw.val_bin rfl rfl (Fw.b_add (Fw.i64_ok (by omega)))) rfl ?_
                  refine Fw.s (Fw.val_move rfl) rfl ?_
                  refine Fw.nil ?_
                  refine Fw.roundEnd _ _ (by omega) ⟨n + 1, _, _, _, csb, _, _, _, rfl, by omega, hs5b, hcB2, HT, HBx, HSx, HB, rfl⟩ (.cons rfl (.cons rfl (.cons rfl (.cons rfl (.cons rfl (.cons rfl (.cons rfl (.cons rfl (.cons rfl .nil)))))))))
                · intro hqx
                  refine Fw.skip ?_
                  refine Fw.X_blockN (id := 3) ?_
                  refine hK34 _ _ ?_
                  have hcB2 : ∀ j, j < 5 → csb[j]? = some (El.pv (El.upd rf i (rf i) j)) := fun j hj => by
                    by_cases he : j = i
                    · subst he; rw [El.upd_same]; exact hcB j hj
                    · rw [El.upd_ne _ _ he]; exact hcB j hj
                  replace HSx := HSx.mono (Nat.le_succ n)
                  refine Fw.region ?_
                  refine Fw.s (Fw.val_bin rfl rfl (Fw.b_add (Fw.i64_ok (by omega)))) rfl ?_
                  refine Fw.s (Fw.val_move rfl) rfl ?_
                  refine Fw.nil ?_
                  refine Fw.roundEnd _ _ (by omega) ⟨n + 1, _, _, _, csb, _, _, _, rfl, by omega, hs5b, hcB2, HT, HBx, HSx, HB, rfl⟩ (.cons rfl (.cons rfl (.cons rfl (.cons rfl (.cons rfl (.cons rfl (.cons rfl (.cons rfl (.cons rfl .nil)))))))))
              · skip
                obtain ⟨HSe, HVi⟩ := HSx.open_ hi5
                clear HSx
                refine Fw.regionHS (fun _ => True) (by kernel_rfl) trivial ?_
                have R_HT := HT
                have R_HBx := HBx
                have R_HPp := HPp
                have R_HB := HB
                intro w26 hb HS
                replace HT := HT.low hb
                replace HBx := HBx.low hb
                replace HPp := HPp.low hb
                replace HSe := HSe.low hb
                replace HVi := HVi.keep (Chg.of_below hb (fun _ => False)) (fun _ _ h => h)
                replace HB := HB.trans (hb.mono HB.size)
                clear hb
                refine Fw.hTk 0 rfl rfl (Fw.yV (Fw.val_move rfl)) rfl ?_
                refine Fw.hTk 1 rfl rfl (Fw.yV (Fw.val_indexP (m := i) Try.underlying33 sz32 rfl rfl rfl hi5 (by rw [Nat.zero_add, Nat.mul_one]))) rfl ?_
                refine Fw.hTk 3 rfl rfl (Fw.yV (Fw.val_move rfl)) rfl ?_
                refine Fw.hTk 4 rfl rfl (Fw.yV (Fw.val_fieldAddr fl43_1 rfl rfl)) rfl ?_
                refine Fw.hAll2 2 5 (by kernel_rfl) ?_ ?_
                · skip
                  refine Fw.hOp 2 rfl ?_
                  refine Fw.ld sc32 rfl ((HBx.cell i).trans (hcB i hi5)) rfl ?_
                  refine Fw.hNext HS ?_
                  refine Fw.hAll1 5 (by kernel_rfl) ?_
                  refine Fw.hOp 5 rfl ?_
                  refine Fw.ld sc5 rfl (HPp.cell 1) rfl ?_
                  refine Fw.hNext HS ?_
                  refine Fw.hTk 6 rfl rfl (Fw.yV (Fw.val_conv Try.underlying5 Try.underlying3 rfl (Fw.i64_ok (by omega)))) rfl ?_
                  refine Fw.hTk 7 rfl rfl (Fw.yV (Fw.val_bin rfl rfl (Fw.b_rem (by decide) hde))) rfl ?_
                  refine Fw.hAll1 8 (by kernel_rfl) ?_
                  refine Fw.hOp 8 rfl ?_
                  refine Fw.call cf12 rfl rfl (grant_any _ o1 i (tf i) (rf i) (Vf i) (1 + t0) nd HVi ⟨by omega, by omega⟩ ⟨by omega, by omega⟩) ?_
                  rintro e_ w27 ⟨x, V2, rfl, HV2, hV2, hx2, hcF⟩
                  refine ⟨_, rfl, ?_⟩
                  have HSx := (HSe.turn1 hi5 hcF).set hi5 HV2 (fun x h_ => by rcases hV2 with e_ | e_ <;> rw [e_]; exact h_; exact List.mem_append_left _ h_)
                  replace HT := HT.chg hcF (by have := HSe.vs.hO gT (by omega); omega)
                  replace HBx := HBx.chg hcF (by have := HSe.vs.hO gBx (by omega); omega)
                  replace HPp := HPp.chg hcF (by omega)
                  replace HB := HB.trans (hcF.below (fun x e => Classical.byContradiction fun h9 => (by have := HSe.vs.hO x (by omega); omega)) HB.size)
                  clear HSe HVi hcF HV2
                  refine Fw.hNext HS ?_
                  refine Fw.hTk 9 rfl rfl (Fw.yV (Fw.val_bin rfl rfl Fw.b_eql)) rfl ?_
                  refine Fw.hDone (by kernel_rfl) ?_
                  exact hK45 _ _ ⟨x, V2, _⟩ ⟨HT, HBx, HPp, HSx, hx2, HB⟩ (.cons rfl (.cons rfl (.cons rfl (.cons rfl (.cons rfl (.cons rfl (.cons rfl (.cons rfl (.cons rfl (.cons rfl (.cons rfl (.cons rfl (.cons rfl .nil)))))))))))))
                · skip
                  refine Fw.hOp 5 rfl ?_
                  refine Fw.ld sc5 rfl (HPp.cell 1) rfl ?_
                  refine Fw.hNext HS ?_
                  refine Fw.hTk 6 rfl rfl (Fw.yV (Fw.val_conv Try.underlying5 Try.underlying3 rfl (Fw.i64_ok (by omega)))) rfl ?_
                  refine Fw.hTk 7 rfl rfl (Fw.yV (Fw.val_bin rfl rfl (Fw.b_rem (by decide) hde))) rfl ?_
                  refine Fw.hAll1 2 (by kernel_rfl) ?_
                  refine Fw.hOp 2 rfl ?_
                  refine Fw.ld sc32 rfl ((HBx.cell i).trans (hcB i hi5)) rfl ?_
                  refine Fw.hNext HS ?_
                  refine Fw.hAll1 8 (by kernel_rfl) ?_
                  refine Fw.hOp 8 rfl ?_
                  refine Fw.call cf12 rfl rfl (grant_any _ o1 i (tf i) (rf i) (Vf i) (1 + t0) nd HVi ⟨by omega, by omega⟩ ⟨by omega, by omega⟩) ?_
                  rintro e_ w28 ⟨x, V2, rfl, HV2, hV2, hx2, hcF⟩
                  refine ⟨_, rfl, ?_⟩
                  have HSx := (HSe.turn1 hi5 hcF).set hi5 HV2 (fun x h_ => by rcases hV2 with e_ | e_ <;> rw [e_]; exact h_; exact List.mem_append_left _ h_)
                  replace HT := HT.chg hcF (by have := HSe.vs.hO gT (by omega); omega)
                  replace HBx := HBx.chg hcF (by have := HSe.vs.hO gBx (by omega); omega)
                  replace HPp := HPp.chg hcF (by omega)
                  replace HB := HB.trans (hcF.below (fun x e => Classical.byContradiction fun h9 => (by have := HSe.vs.hO x (by omega); omega)) HB.size)
                  clear HSe HVi hcF HV2
                  refine Fw.hNext HS ?_
                  refine Fw.hTk 9 rfl rfl (Fw.yV (Fw.val_bin rfl rfl Fw.b_eql)) rfl ?_
                  refine Fw.hDone (by kernel_rfl) ?_
                  exact hK45 _ _ ⟨x, V2, _⟩ ⟨HT, HBx, HPp, HSx, hx2, HB⟩ (.cons rfl (.cons rfl (.cons rfl (.cons rfl (.cons rfl (.cons rfl (.cons rfl (.cons rfl (.cons rfl (.cons rfl (.cons rfl (.cons rfl (.cons rfl .nil)))))))))))))
          · rintro hn3
            refine Fw.nil ?_
            refine hK31 _ _ ?_
            refine Fw.seq fun _ hK46 => ?_
            refine Fw.condF rfl ?_
            refine Fw.exit ?_
            refine Fw.X_exit ?_
            refine Fw.X_exit ?_
            refine Fw.X_block ?_
            refine hK28 _ _ (Fw.FC.sub (f' := [(12, _), (5, _), (6, _)]) (.cons rfl (.cons rfl (.cons rfl .nil))) ?_)
            refine Fw.seq fun _ hK47 => ?_
            refine Fw.seq fun _ hK48 => ?_
            obtain rfl : n = l.length := by omega
            replace HP := HP.low HB
            replace HJ := HJ.low HB
            replace hAo := hAo.low HB
            replace HR1 := HR1.low HB
            replace HR2 := HR2.low HB
            have HBw2 := HBw.trans (HB.mono HBw.size)
            have hok := HSx.ok
            have hrows : ∀ t, Rd w15 (A t) ((G t).flatMap El.vc) := fun t => Rd.of_own (HSx.gr.row t)
            have hlen := HSx.len
            have HMg := HSx.gr.map
            have lgM2 := HMg.lt
            clear HB HSx HT HBx
            have HB := Below.refl (w15.heap.size) w15
            refine Fw.region ?_
            refine Fw.s (Fw.val_move rfl) rfl ?_
            refine Mp.rangeM HMg Try.underlying2 Try.underlying41 rfl rfl ?_
            intro w29 gR cnt0 egR HMR hb hcn0
            have lgR : w15.heap.size ≤ gR := by have := HB.size; omega
            replace HB := HB.trans (hb.mono HB.size)
            clear hb
            refine Fw.nil ?_
            refine hK48 _ _ ?_
            refine Fw.block ?_
            refine Fw.loop (fun m_ f_ W_ => ∃ (cnt : Nat) (todo : Int → Bool), m_ = cnt ∧ Mp.MapR Try.prog W_ 2 .i64 gM gR l.length (Mp.sl G A c) todo cnt ∧ Below (w15.heap.size) w15 W_ ∧ f_ = [(122, .pointer (some ⟨gR, 0, none⟩)), (5, .pointer (some ⟨gP, 0, none⟩)), (6, .pointer (some ⟨gJ, 0, none⟩))]) ⟨_, _, ⟨cnt0, _, rfl, HMR, HB, rfl⟩, (.cons rfl (.cons rfl (.cons rfl .nil)))⟩ ?_
            clear HMR HB
            rintro m49_ _ w30 ⟨cnt, todo, hm49_, HMR, HB, rfl⟩
            refine Fw.seq fun _ hK50 => ?_
            refine Fw.region ?_
            refine Mp.nextM HMR Try.underlying2 rfl rfl ?_ ?_
            · intro hc0 htd
              refine Fw.s (Fw.val_extract rfl rfl) rfl ?_
              refine Fw.nil ?_
              refine hK50 _ _ ?_
              refine Fw.seq fun _ hK51 => ?_
              refine Fw.condF rfl ?_
              refine Fw.exit ?_
              refine Fw.X_exit ?_
              refine Fw.X_exit ?_
              refine Fw.X_block ?_
              refine hK47 _ _ ?_
              refine Fw.seq fun _ hK52 => ?_
              refine Fw.region ?_
              refine Fw.s (Fw.val_assign rfl) rfl ?_
              refine Fw.nil ?_
              refine hK52 _ _ ?_
              refine Fw.ret ?_
              refine Fw.ret_ [.tmp 4] [_] Try.results3 (.tmp rfl .nil) ?_
              exact ⟨rfl, HBw2.trans (HB.mono HBw2.size)⟩
            · intro t v_ w31 cnt2 hwt htd hMv HMR2 hlt2 hcN hen
              obtain rfl := El.sl_some hMv
              replace HB := HB.trans (hcN.below (fun k e => by omega) HB.size)
              clear HMR hcN
              have HMR := HMR2
              clear HMR2
              refine Fw.s (Fw.val_extract rfl rfl) rfl ?_
              refine Fw.nil ?_
              refine hK50 _ _ ?_
              refine Fw.seq fun _ hK53 => ?_
              refine Fw.condT rfl ?_
              refine Fw.skip ?_
              refine hK53 _ _ ?_
              refine Fw.block ?_
              refine Fw.seq fun _ hK54 => ?_
              refine Fw.region ?_
              refine Mp.entryM hen rfl rfl ?_
              refine Fw.s (Fw.val_extract rfl rfl) rfl ?_
              refine Fw.s (Fw.val_assign rfl) rfl ?_
              refine Fw.nil ?_
              refine hK54 _ _ ?_
              refine Fw.seq fun _ hK55 => ?_
              refine Fw.region ?_
              refine Fw.ldA ag26 rfl (Fw.rdBlk (HP.low HB)) rfl rfl ?_
              refine Fw.s (Fw.val_move rfl) rfl ?_
              refine Fw.call cf13 rfl rfl (winner_any _ (some ⟨gS35, 0, none⟩) ([0, 1, 2] : List Int) 3 none [] 0 (hAo.low HB) (Rd.nil _ _) (by decide) (by decide) (A t) (G t) (c t) ((hrows t).low HB) (by have := hlen t; omega) (hok t).1) ?_
              rintro e_ w32 ⟨won, rfl, hwon, hb⟩
              refine ⟨_, rfl, ?_⟩
              replace HMR := HMR.low hb
              replace HB := HB.trans (hb.mono HB.size)
              clear hb
              refine Fw.s (Fw.val_assign rfl) rfl ?_
              refine Fw.nil ?_
              refine hK55 _ _ (Fw.FC.sub (f' := [(19, _), (18, _), (122, _), (5, _), (6, _)]) (.cons rfl (.cons rfl (.cons rfl (.cons rfl (.cons rfl .nil))))) ?_)
              refine Fw.seq fun _ hK56 => ?_
              refine Fw.region ?_
              refine Fw.ldA ag26 rfl (Fw.rdBlk (HJ.low HB)) rfl rfl ?_
              refine Fw.s (Fw.val_move rfl) rfl ?_
              refine Fw.call cf13 rfl rfl (winner_any _ A1 ([0, 1, 2] : List Int) c1 A2 nw c2 (HR1.low HB) (HR2.low HB) (by decide) (by omega) (A t) (G t) (c t) ((hrows t).low HB) (by have := hlen t; omega) (hok t).1) ?_
              rintro e_ w33 ⟨both, rfl, hboth, hb⟩
              refine ⟨_, rfl, ?_⟩
              replace HMR := HMR.low hb
              replace HB := HB.trans (hb.mono HB.size)
              clear hb
              refine Fw.s (Fw.val_assign rfl) rfl ?_
              refine Fw.nil ?_
              refine hK56 _ _ ?_
              refine Fw.seq fun _ hK57 => ?_
              refine Fw.seq fun _ hK58 => ?_
              refine Fw.region ?_
              refine Fw.s (Fw.val_move rfl) rfl ?_
              refine Fw.s2 (Fw.val_bin rfl rfl Fw.b_geq) rfl ?_ ?_
              · rintro hb0
                refine Fw.s (Fw.val_move rfl) rfl ?_
                refine Fw.gT (d := 135) rfl rfl ?_
                refine Fw.s (Fw.val_move rfl) rfl ?_
                refine Fw.gT (d := 135) rfl rfl ?_
                refine Fw.s (Fw.val_move rfl) rfl ?_
                refine Fw.gT (d := 135) rfl rfl ?_
                refine Fw.s (Fw.Val.F (Fw.val_bin rfl rfl Fw.b_neq) (by intro h_; exact h_ (El.won_both (hok t) hwon hboth (by omega)))) rfl ?_
                refine Fw.s (Fw.val_pickT rfl rfl) rfl ?_
                refine Fw.nil ?_
                refine hK58 _ _ (Fw.FC.sub (f' := [(139, _), (138, _), (137, _), (136, _), (19, _), (18, _), (122, _), (5, _), (6, _)]) (.cons rfl (.cons rfl (.cons rfl (.cons rfl (.cons rfl (.cons rfl (.cons rfl (.cons rfl (.cons rfl .nil))))))))) ?_)
                refine Fw.condF rfl ?_
                refine Fw.skip ?_
                refine hK57 _ _ ?_
                refine Fw.seq fun _ hK60 => ?_
                refine Fw.region ?_
                refine Fw.s (Fw.val_move rfl) rfl ?_
                refine Fw.nil ?_
                refine hK60 _ _ ?_
                refine Fw.block ?_
                refine Fw.loop (fun m_ f_ W_ => ∃ (wh : Nat), m_ = 3 - wh ∧ wh ≤ 3 ∧ Mp.MapR Try.prog W_ 2 .i64 gM gR l.length (Mp.sl G A c) (fun y => todo y && decide (y ≠ t)) cnt2 ∧ Below (w15.heap.size) w15 W_ ∧ f_ = [(140, .int .i64 wh), (19, .int .i64 won), (18, .slice (A t) (G t).length (c t)), (122, .pointer (some ⟨gR, 0, none⟩)), (5, .pointer (some ⟨gP, 0, none⟩)), (6, .pointer (some ⟨gJ, 0, none⟩))]) ⟨_, _, ⟨0, rfl, Nat.zero_le _, HMR, HB, rfl⟩, (.cons rfl (.cons rfl (.cons rfl (.cons rfl (.cons rfl (.cons rfl .nil))))))⟩ ?_
                clear HMR HB
                rintro m61_ _ w34 ⟨wh, hm61_, hwh, HMR, HB, rfl⟩
                refine Fw.seq fun _ hK62 => ?_
                refine Fw.region ?_
                refine Fw.s2 (Fw.val_bin rfl rfl Fw.b_lss) rfl ?_ ?_
                · rintro hw3
                  refine Fw.nil ?_
                  refine hK62 _ _ ?_
                  refine Fw.seq fun _ hK64 => ?_
                  refine Fw.condT rfl ?_
                  refine Fw.skip ?_
                  refine hK64 _ _ ?_
                  refine Fw.seq fun _ hK65 => ?_
                  refine Fw.block ?_
                  refine Fw.seq fun _ hK66 => ?_
                  refine Fw.region ?_
                  refine Fw.s (Fw.val_move rfl) rfl ?_
                  refine Fw.s (Fw.val_assign rfl) rfl ?_
                  refine Fw.nil ?_
                  refine hK66 _ _ ?_
                  refine Fw.seq fun _ hK67 => ?_
                  refine Fw.region ?_
                  refine Fw.s (Fw.val_assign rfl) rfl ?_
                  refine Fw.nil ?_
                  refine hK67 _ _ ?_
                  refine Fw.seq fun _ hK68 => ?_
                  refine Fw.seq fun _ hK69 => ?_
                  refine Fw.region ?_
                  refine Fw.s (Fw.val_move rfl) rfl ?_
                  refine Fw.s (Fw.val_len Try.underlying46 rfl) rfl ?_
                  refine Fw.s (Fw.val_move rfl) rfl ?_
                  refine Fw.nil ?_
                  refine hK69 _ _ ?_
                  refine Fw.block ?_
                  have HY : w34.ownsRow w15.heap.size 3 1 (.slice none 0 0) 0 [] := World.ownsRow_nil _ _ _ _
                  refine Fw.loop (fun m_ f_ W_ => ∃ (m : Nat) (Ay : Option Addr) (cy : Nat), m_ = (G t).length - m ∧ m ≤ (G t).length ∧ Mp.MapR Try.prog W_ 2 .i64 gM gR l.length (Mp.sl G A c) (fun y => todo y && decide (y ≠ t)) cnt2 ∧ W_.ownsRow w15.heap.size 3 1 (.slice Ay (El.yes ((G t).take m) (wh : Int)).length cy) (El.yes ((G t).take m) (wh : Int)).length ((El.yes ((G t).take m) (wh : Int)).map (.int .i64)) ∧ Below (w15.heap.size) w15 W_ ∧ f_ = [(145, .int .i64 m), (144, .int .i64 (G t).length), (143, .slice (A t) (G t).length (c t)), (22, .slice Ay (El.yes ((G t).take m) (wh : Int)).length cy), (21, .int .i64 wh), (140, .int .i64 wh), (19, .int .i64 won), (18, .slice (A t) (G t).length (c t)), (122, .pointer (some ⟨gR, 0, none⟩)), (5, .pointer (some ⟨gP, 0, none⟩)), (6, .pointer (some ⟨gJ, 0, none⟩))]) ⟨_, _, ⟨0, none, 0, rfl, Nat.zero_le _, HMR, HY, HB, rfl⟩, (.cons rfl (.cons rfl (.cons rfl (.cons rfl (.cons rfl (.cons rfl (.cons rfl (.cons rfl (.cons rfl (.cons rfl (.cons rfl .nil)))))))))))⟩ ?_
                  clear HMR HY HB
                  rintro m70_ _ w35 ⟨m, Ay, cy, hm70_, hm, HMR, HY, HB, rfl⟩
                  refine Fw.seq fun _ hK71 => ?_
                  refine Fw.region ?_
                  refine Fw.s2 (Fw.val_bin rfl rfl Fw.b_lss) rfl ?_ ?_
                  · rintro hm3
                    refine Fw.nil ?_
                    refine hK71 _ _ ?_
                    refine Fw.seq fun _ hK73 => ?_
                    refine Fw.condT rfl ?_
                    refine Fw.skip ?_
                    refine hK73 _ _ ?_
                    refine Fw.seq fun _ hK74 => ?_
                    refine Fw.block ?_
                    refine Fw.seq fun _ hK75 => ?_
                    have hm2 : m < (G t).length := by omega
                    have hlt_ := hlen t
                    obtain ⟨ad4, b4_, o4_, hA4, hadd4, HVe⟩ := Fw.rdAt El.vc_len (by decide) (hrows t) m hm2
                    refine Fw.region ?_
                    refine Fw.s (Fw.val_indexR Try.underlying46 sz47 rfl hA4 rfl rfl hm2 hadd4) rfl ?_
                    refine Fw.ldA ag47 rfl ((HVe.low HB)) rfl rfl ?_
                    refine Fw.alloc ze47 rfl ?_
                    intro w36 gq egq Hq hb
                    have lgq : w15.heap.size ≤ gq := by have := HB.size; omega
                    replace HMR := HMR.low hb
                    replace HY := own_below HY hb (Nat.le_refl _)
                    replace HB := HB.trans (hb.mono HB.size)
                    clear hb
                    clear egq
                    refine Fw.storeW sz47 rfl rfl Hq rfl rfl (by exact Fw.oneCells rfl) ?_
                    intro w37 N_ hc
                    replace HMR := HMR.chg hc (fun e => HMR.mapI.ne_blk Hq e) (fun e => HMR.ne_blk Hq e)
                    replace HY := own_to HY hc (fun g_ h_ e_ => own_ne HY Hq (by decide) (by rw [h_, e_]))
                    replace HB := HB.trans (hc.below (B := w15.heap.size) (fun k e => by omega) HB.size)
                    clear hc
                    clear Hq
                    have Hq := N_
                    clear N_
                    replace Hq : Blk w37 gq 47 #[.int .i64 (G t)[m].1, .int .i64 (G t)[m].2] := Hq
                    refine Fw.nil ?_
                    refine hK75 _ _ ?_
                    refine Fw.seq fun _ hK77 => ?_
                    refine Fw.region ?_
                    refine Fw.s (Fw.val_indexP (m := 1) Try.underlying47 sz3 rfl rfl rfl (by decide) rfl) rfl ?_
                    refine Fw.ld sc3 rfl (Hq.cell 1) rfl ?_
                    refine Fw.s (Fw.val_move rfl) rfl ?_
                    refine Fw.s2 (Fw.val_bin rfl rfl Fw.b_eql) rfl ?_ ?_
                    · rintro heq
                      refine Fw.nil ?_
                      refine hK77 _ _ ?_
                      refine Fw.condT rfl ?_
                      refine Fw.region ?_
                      refine Fw.s (Fw.val_move rfl) rfl ?_
                      refine Fw.s (Fw.val_indexP (m := 0) Try.underlying47 sz3 rfl rfl rfl (by decide) rfl) rfl ?_
                      refine Fw.ld sc3 rfl (Hq.cell 0) rfl ?_
                      refine Fw.buildSlice [_] sl23 rfl rfl (by exact Fw.allSz rfl) (by decide) rfl ?_
                      intro w38 gS156 egS156 HS156 hb
                      have n_gq_gS156 : gq < gS156 := by have := Hq.lt; omega
                      have lgS156 : w15.heap.size ≤ gS156 := by have := HB.size; omega
                      replace HMR := HMR.low hb
                      replace HY := own_below HY hb (Nat.le_refl _)
                      replace Hq := Hq.low hb
                      replace HB := HB.trans (hb.mono HB.size)
                      clear hb
                      clear egS156
                      have hyy := El.yes_yes hm2 heq
                      have hyl : (El.yes ((G t).take m) (wh : Int)).length ≤ 60 := by have := El.yes_len ((G t).take m) (wh : Int); rw [List.length_take] at this; have := hlen t; omega
                      refine Fw.append (base := w15.heap.size) (El.yes ((G t).take (m + 1)) (wh : Int)).length ((El.yes ((G t).take (m + 1)) (wh : Int)).map (.int .i64)) sl23 rfl rfl HY (Fw.rdBlk HS156) rfl (Fw.oneCellsL rfl) (by unfold maxLen; omega) HB.size (by rw [hyy]; simp) (by rw [hyy, List.map_append]; rfl) rfl ?_
                      intro A157 c157 w39 N_ hbb hc hrow
                      replace HMR := HMR.chg hc (HMR.mapI.ne_own HY) (HMR.ne_own HY)
                      replace HB := HB.trans hbb
                      clear hbb hc hrow HY HS156
                      have HY := N_
                      clear N_
                      refine Fw.s (Fw.val_assign rfl) rfl ?_
                      refine Fw.nil ?_
                      refine Fw.X_blockN (id := 9) ?_
                      refine hK74 _ _ (Fw.FC.sub (f' := [(22, _), (145, _), (144, _), (143, _), (21, _), (140, _), (19, _), (18, _), (122, _), (5, _), (6, _)]) (.cons rfl (.cons rfl (.cons rfl (.cons rfl (.cons rfl (.cons rfl (.cons rfl (.cons rfl (.cons rfl (.cons rfl (.cons rfl .nil))))))))))) ?_)
                      refine Fw.region ?_
                      refine Fw.s (Fw.val_bin rfl rfl (Fw.b_add (Fw.i64_ok (by omega)))) rfl ?_
                      refine Fw.s (Fw.val_move rfl) rfl ?_
                      refine Fw.nil ?_
                      refine Fw.roundEnd _ _ (by omega) ⟨m + 1, A157, c157, rfl, by omega, HMR, HY, HB, rfl⟩ (.cons rfl (.cons rfl (.cons rfl (.cons rfl (.cons rfl (.cons rfl (.cons rfl (.cons rfl (.cons rfl (.cons rfl (.cons rfl .nil)))))))))))
                    · rintro heq
                      refine Fw.nil ?_
                      refine hK77 _ _ ?_
                      refine Fw.condF rfl ?_
                      refine Fw.skip ?_
                      refine Fw.X_blockN (id := 9) ?_
                      refine hK74 _ _ (Fw.FC.sub (f' := [(145, _), (144, _), (143, _), (22, _), (21, _), (140, _), (19, _), (18, _), (122, _), (5, _), (6, _)]) (.cons rfl (.cons rfl (.cons rfl (.cons rfl (.cons rfl (.cons rfl (.cons rfl (.cons rfl (.cons rfl (.cons rfl (.cons rfl .nil))))))))))) ?_)
                      rw [← El.yes_no hm2 heq] at HY ⊢
                      refine Fw.region ?_
                      refine Fw.s (Fw.val_bin rfl rfl (Fw.b_add (Fw.i64_ok (by omega)))) rfl ?_
                      refine Fw.s (Fw.val_move rfl) rfl ?_
                      refine Fw.nil ?_
                      refine Fw.roundEnd _ _ (by omega) ⟨m + 1, Ay, cy, rfl, by omega, HMR, HY, HB, rfl⟩ (.cons rfl (.cons rfl (.cons rfl (.cons rfl (.cons rfl (.cons rfl (.cons rfl (.cons rfl (.cons rfl (.cons rfl (.cons rfl .nil)))))))))))
                  · rintro hm3
                    refine Fw.nil ?_
                    refine hK71 _ _ ?_
                    refine Fw.seq fun _ hK79 => ?_
                    refine Fw.condF rfl ?_
                    refine Fw.exit ?_
                    refine Fw.X_exit ?_
                    refine Fw.X_exit ?_
                    refine Fw.X_block ?_
                    refine hK68 _ _ ?_
                    refine Fw.seq fun _ hK80 => ?_
                    obtain rfl : m = (G t).length := by omega
                    rw [List.take_length] at HY ⊢
                    have hyl : (El.yes (G t) (wh : Int)).length ≤ 65536 := by have := El.yes_len (G t) (wh : Int); have := hlen t; omega
                    refine Fw.region ?_
                    refine Fw.ldA ag26 rfl (Fw.rdBlk (HP.low HB)) rfl rfl ?_
                    refine Fw.s (Fw.val_move rfl) rfl ?_
                    refine Fw.call cf14 rfl rfl (reached_any _ (some ⟨gS35, 0, none⟩) ([0, 1, 2] : List Int) 3 none [] 0 (hAo.low HB) (Rd.nil _ _) (by decide) (by decide) Ay (El.yes (G t) (wh : Int)) cy (Rd.of_own HY) hyl) ?_
                    rintro e_ w40 ⟨b161, rfl, h161, hb⟩
                    refine ⟨_, rfl, ?_⟩
                    replace HMR := HMR.low hb
                    replace HY := own_below HY hb (Nat.le_refl _)
                    replace HB := HB.trans (hb.mono HB.size)
                    clear hb
                    refine Fw.s (Fw.val_move rfl) rfl ?_
                    refine Fw.s (Fw.val_move rfl) rfl ?_
                    refine Fw.s (Fw.val_bin rfl rfl Fw.b_eql) rfl ?_
                    refine Fw.s (Fw.Val.F (Fw.val_bin rfl rfl (Fw.b_neqB Try.underlying4)) (by intro h_; apply h_; rw [Bool.eq_iff_iff, h161, decide_eq_true_eq]; exact El.won_iff (hok t) hwon wh)) rfl ?_
                    refine Fw.nil ?_
                    refine hK80 _ _ (Fw.FC.sub (f' := [(165, _), (140, _), (19, _), (18, _), (122, _), (5, _), (6, _)]) (.cons rfl (.cons rfl (.cons rfl (.cons rfl (.cons rfl (.cons rfl (.cons rfl .nil))))))) ?_)
                    refine Fw.condF rfl ?_
                    refine Fw.skip ?_
                    refine Fw.X_blockN (id := 7) ?_
                    refine hK65 _ _ ?_
                    refine Fw.region ?_
                    refine Fw.s (Fw.val_bin rfl rfl (Fw.b_add (Fw.i64_ok (by omega)))) rfl ?_
                    refine Fw.s (Fw.val_move rfl) rfl ?_
                    refine Fw.nil ?_
                    refine Fw.roundEnd _ _ (by omega) ⟨wh + 1, rfl, by omega, HMR, HB, rfl⟩ (.cons rfl (.cons rfl (.cons rfl (.cons rfl (.cons rfl (.cons rfl .nil))))))
                · rintro hw3
                  refine Fw.nil ?_
                  refine hK62 _ _ ?_
                  refine Fw.seq fun _ hK81 => ?_
                  refine Fw.condF rfl ?_
                  refine Fw.exit ?_
                  refine Fw.X_exit ?_
                  refine Fw.X_exit ?_
                  refine Fw.X_block ?_
                  refine Fw.X_blockN (id := 5) ?_
                  refine Fw.roundEnd _ _ (by omega) ⟨cnt2, _, rfl, HMR, HB, rfl⟩ (.cons rfl (.cons rfl (.cons rfl .nil)))
              · rintro hb0
                refine Fw.s (Fw.val_move rfl) rfl ?_
                refine Fw.gF (d := 135) rfl rfl rfl rfl ?_
                refine Fw.gF (d := 135) rfl rfl rfl rfl ?_
                refine Fw.gF (d := 135) rfl rfl rfl rfl ?_
                refine Fw.s (Fw.val_pickF rfl rfl) rfl ?_
                refine Fw.nil ?_
                refine hK58 _ _ (Fw.FC.sub (f' := [(139, _), (138, _), (137, _), (136, _), (19, _), (18, _), (122, _), (5, _), (6, _)]) (.cons rfl (.cons rfl (.cons rfl (.cons rfl (.cons rfl (.cons rfl (.cons rfl (.cons rfl (.cons rfl .nil))))))))) ?_)
                refine Fw.condF rfl ?_
                refine Fw.skip ?_
                refine hK57 _ _ ?_
                refine Fw.seq fun _ hK82 => ?_
                refine Fw.region ?_
                refine Fw.s (Fw.val_move rfl) rfl ?_
                refine Fw.nil ?_
                refine hK82 _ _ ?_
                refine Fw.block ?_
                refine Fw.loop (fun m_ f_ W_ => ∃ (wh : Nat), m_ = 3 - wh ∧ wh ≤ 3 ∧ Mp.MapR Try.prog W_ 2 .i64 gM gR l.length (Mp.sl G A c) (fun y => todo y && decide (y ≠ t)) cnt2 ∧ Below (w15.heap.size) w15 W_ ∧ f_ = [(140, .int .i64 wh), (19, .int .i64 won), (18, .slice (A t) (G t).length (c t)), (122, .pointer (some ⟨gR, 0, none⟩)), (5, .pointer (some ⟨gP, 0, none⟩)), (6, .pointer (some ⟨gJ, 0, none⟩))]) ⟨_, _, ⟨0, rfl, Nat.zero_le _, HMR, HB, rfl⟩, (.cons rfl (.cons rfl (.cons rfl (.cons rfl (.cons rfl (.cons rfl .nil))))))⟩ ?_
                clear HMR HB
                rintro m83_ _ w41 ⟨wh, hm83_, hwh, HMR, HB, rfl⟩
                refine Fw.seq fun _ hK84 => ?_
                refine Fw.region ?_
                refine Fw.s2 (Fw.val_bin rfl rfl Fw.b_lss) rfl ?_ ?_
                · rintro hw3
                  refine Fw.nil ?_
                  refine hK84 _ _ ?_
                  refine Fw.seq fun _ hK86 => ?_
                  refine Fw.condT rfl ?_
                  refine Fw.skip ?_
                  refine hK86 _ _ ?_
                  refine Fw.seq fun _ hK87 => ?_
                  refine Fw.block ?_
                  refine Fw.seq fun _ hK88 => ?_
                  refine Fw.region ?_
                  refine Fw.s (Fw.val_move rfl) rfl ?_
                  refine Fw.s (Fw.val_assign rfl) rfl ?_
                  refine Fw.nil ?_
                  refine hK88 _ _ ?_
                  refine Fw.seq fun _ hK89 => ?_
                  refine Fw.region ?_
                  refine Fw.s (Fw.val_assign rfl) rfl ?_
                  refine Fw.nil ?_
                  refine hK89 _ _ ?_
                  refine Fw.seq fun _ hK90 => ?_
                  refine Fw.seq fun _ hK91 => ?_
                  refine Fw.region ?_
                  refine Fw.s (Fw.val_move rfl) rfl ?_
                  refine Fw.s (Fw.val_len Try.underlying46 rfl) rfl ?_
                  refine Fw.s (Fw.val_move rfl) rfl ?_
                  refine Fw.nil ?_
                  refine hK91 _ _ ?_
                  refine Fw.block ?_
                  have HY : w41.ownsRow w15.heap.size 3 1 (.slice none 0 0) 0 [] := World.ownsRow_nil _ _ _ _
                  refine Fw.loop (fun m_ f_ W_ => ∃ (m : Nat) (Ay : Option Addr) (cy : Nat), m_ = (G t).length - m ∧ m ≤ (G t).length ∧ Mp.MapR Try.prog W_ 2 .i64 gM gR l.length (Mp.sl G A c) (fun y => todo y && decide (y ≠ t)) cnt2 ∧ W_.ownsRow w15.heap.size 3 1 (.slice Ay (El.yes ((G t).take m) (wh : Int)).length cy) (El.yes ((G t).take m) (wh : Int)).length ((El.yes ((G t).take m) (wh : Int)).map (.int .i64)) ∧ Below (w15.heap.size) w15 W_ ∧ f_ = [(145, .int .i64 m), (144, .int .i64 (G t).length), (143, .slice (A t) (G t).length (c t)), (22, .slice Ay (El.yes ((G t).take m) (wh : Int)).length cy), (21, .int .i64 wh), (140, .int .i64 wh), (19, .int .i64 won), (18, .slice (A t) (G t).length (c t)), (122, .pointer (some ⟨gR, 0, none⟩)), (5, .pointer (some ⟨gP, 0, none⟩)), (6, .pointer (some ⟨gJ, 0, none⟩))]) ⟨_, _, ⟨0, none, 0, rfl, Nat.zero_le _, HMR, HY, HB, rfl⟩, (.cons rfl (.cons rfl (.cons rfl (.cons rfl (.cons rfl (.cons rfl (.cons rfl (.cons rfl (.cons rfl (.cons rfl (.cons rfl .nil)))))))))))⟩ ?_
                  clear HMR HY HB
                  rintro m92_ _ w42 ⟨m, Ay, cy, hm92_, hm, HMR, HY, HB, rfl⟩
                  refine Fw.seq fun _ hK93 => ?_
                  refine Fw.region ?_
                  refine Fw.s2 (Fw.val_bin rfl rfl Fw.b_lss) rfl ?_ ?_
                  · rintro hm3
                    refine Fw.nil ?_
                    refine hK93 _ _ ?_
                    refine Fw.seq fun _ hK95 => ?_
                    refine Fw.condT rfl ?_
                    refine Fw.skip ?_
                    refine hK95 _ _ ?_
                    refine Fw.seq fun _ hK96 => ?_
                    refine Fw.block ?_
                    refine Fw.seq fun _ hK97 => ?_
                    have hm2 : m < (G t).length := by omega
                    have hlt_ := hlen t
                    obtain ⟨ad4, b4_, o4_, hA4, hadd4, HVe⟩ := Fw.rdAt El.vc_len (by decide) (hrows t) m hm2
                    refine Fw.region ?_
                    refine Fw.s (Fw.val_indexR Try.underlying46 sz47 rfl hA4 rfl rfl hm2 hadd4) rfl ?_
                    refine Fw.ldA ag47 rfl ((HVe.low HB)) rfl rfl ?_
                    refine Fw.alloc ze47 rfl ?_
                    intro w43 gq egq Hq hb
                    have lgq : w15.heap.size ≤ gq := by have := HB.size; omega
                    replace HMR := HMR.low hb
                    replace HY := own_below HY hb (Nat.le_refl _)
                    replace HB := HB.trans (hb.mono HB.size)
                    clear hb
                    clear egq
                    refine Fw.storeW sz47 rfl rfl Hq rfl rfl (by exact Fw.oneCells rfl) ?_
                    intro w44 N_ hc
                    replace HMR := HMR.chg hc (fun e => HMR.mapI.ne_blk Hq e) (fun e => HMR.ne_blk Hq e)
                    replace HY := own_to HY hc (fun g_ h_ e_ => own_ne HY Hq (by decide) (by rw [h_, e_]))
                    replace HB := HB.trans (hc.below (B := w15.heap.size) (fun k e => by omega) HB.size)
                    clear hc
                    clear Hq
                    have Hq := N_
                    clear N_
                    replace Hq : Blk w44 gq 47 #[.int .i64 (G t)[m].1, .int .i64 (G t)[m].2] := Hq
                    refine Fw.nil ?_
                    refine hK97 _ _ ?_
                    refine Fw.seq fun _ hK99 => ?_
                    refine Fw.region ?_
                    refine Fw.s (Fw.val_indexP (m := 1) Try.underlying47 sz3 rfl rfl rfl (by decide) rfl) rfl ?_
                    refine Fw.ld sc3 rfl (Hq.cell 1) rfl ?_
                    refine Fw.s (Fw.val_move rfl) rfl ?_
                    refine Fw.s2 (Fw.val_bin rfl rfl Fw.b_eql) rfl ?_ ?_
                    · rintro heq
                      refine Fw.nil ?_
                      refine hK99 _ _ ?_
                      refine Fw.condT rfl ?_
                      refine Fw.region ?_
                      refine Fw.s (Fw.val_move rfl) rfl ?_
                      refine Fw.s (Fw.val_indexP (m := 0) Try.underlying47 sz3 rfl rfl rfl (by decide) rfl) rfl ?_
                      refine Fw.ld sc3 rfl (Hq.cell 0) rfl ?_
                      refine Fw.buildSlice [_] sl23 rfl rfl (by exact Fw.allSz rfl) (by decide) rfl ?_
                      intro w45 gS156 egS156 HS156 hb
                      have n_gq_gS156 : gq < gS156 := by have := Hq.lt; omega
                      have lgS156 : w15.heap.size ≤ gS156 := by have := HB.size; omega
                      replace HMR := HMR.low hb
                      replace HY := own_below HY hb (Nat.le_refl _)
                      replace Hq := Hq.low hb
                      replace HB := HB.trans (hb.mono HB.size)
                      clear hb
                      clear egS156
                      have hyy := El.yes_yes hm2 heq
                      have hyl : (El.yes ((G t).take m) (wh : Int)).length ≤ 60 := by have := El.yes_len ((G t).take m) (wh : Int); rw [List.length_take] at this; have := hlen t; omega
                      refine Fw.append (base := w15.heap.size) (El.yes ((G t).take (m + 1)) (wh : Int)).length ((El.yes ((G t).take (m + 1)) (wh : Int)).map (.int .i64)) sl23 rfl rfl HY (Fw.rdBlk HS156) rfl (Fw.oneCellsL rfl) (by unfold maxLen; omega) HB.size (by rw [hyy]; simp) (by rw [hyy, List.map_append]; rfl) rfl ?_
                      intro A157 c157 w46 N_ hbb hc hrow
                      replace HMR := HMR.chg hc (HMR.mapI.ne_own HY) (HMR.ne_own HY)
                      replace HB := HB.trans hbb
                      clear hbb hc hrow HY HS156
                      have HY := N_
                      clear N_
                      refine Fw.s (Fw.val_assign rfl) rfl ?_
                      refine Fw.nil ?_
                      refine Fw.X_blockN (id := 9) ?_
                      refine hK96 _ _ (Fw.FC.sub (f' := [(22, _), (145, _), (144, _), (143, _), (21, _), (140, _), (19, _), (18, _), (122, _), (5, _), (6, _)]) (.cons rfl (.cons rfl (.cons rfl (.cons rfl (.cons rfl (.cons rfl (.cons rfl (.cons rfl (.cons rfl (.cons rfl (.cons rfl .nil))))))))))) ?_)
                      refine Fw.region ?_
                      refine Fw.s (Fw.val_bin rfl rfl (Fw.b_add (Fw.i64_ok (by omega)))) rfl ?_
                      refine Fw.s (Fw.val_move rfl) rfl ?_
                      refine Fw.nil ?_
                      refine Fw.roundEnd _ _ (by omega) ⟨m + 1, A157, c157, rfl, by omega, HMR, HY, HB, rfl⟩ (.cons rfl (.cons rfl (.cons rfl (.cons rfl (.cons rfl (.cons rfl (.cons rfl (.cons rfl (.cons rfl (.cons rfl (.cons rfl .nil)))))))))))
                    · rintro heq
                      refine Fw.nil ?_
                      refine hK99 _ _ ?_
                      refine Fw.condF rfl ?_
                      refine Fw.skip ?_
                      refine Fw.X_blockN (id := 9) ?_
                      refine hK96 _ _ (Fw.FC.sub (f' := [(145, _), (144, _), (143, _), (22, _), (21, _), (140, _), (19, _), (18, _), (122, _), (5, _), (6, _)]) (.cons rfl (.cons rfl (.cons rfl (.cons rfl (.cons rfl (.cons rfl (.cons rfl (.cons rfl (.cons rfl (.cons rfl (.cons rfl .nil))))))))))) ?_)
                      rw [← El.yes_no hm2 heq] at HY ⊢
                      refine Fw.region ?_
                      refine Fw.s (Fw.val_bin rfl rfl (Fw.b_add (Fw.i64_ok (by omega)))) rfl ?_
                      refine Fw.s (Fw.val_move rfl) rfl ?_
                      refine Fw.nil ?_
                      refine Fw.roundEnd _ _ (by omega) ⟨m + 1, Ay, cy, rfl, by omega, HMR, HY, HB, rfl⟩ (.cons rfl (.cons rfl (.cons rfl (.cons rfl (.cons rfl (.cons rfl (.cons rfl (.cons rfl (.cons rfl (.cons rfl (.cons rfl .nil)))))))))))
                  · rintro hm3
                    refine Fw.nil ?_
                    refine hK93 _ _ ?_
                    refine Fw.seq fun _ hK101 => ?_
                    refine Fw.condF rfl ?_
                    refine Fw.exit ?_
                    refine Fw.X_exit ?_
                    refine Fw.X_exit ?_
                    refine Fw.X_block ?_
                    refine hK90 _ _ ?_
                    refine Fw.seq fun _ hK102 => ?_
                    obtain rfl : m = (G t).length := by omega
                    rw [List.take_length] at HY ⊢
                    have hyl : (El.yes (G t) (wh : Int)).length ≤ 65536 := by have := El.yes_len (G t) (wh : Int); have := hlen t; omega
                    refine Fw.region ?_
                    refine Fw.ldA ag26 rfl (Fw.rdBlk (HP.low HB)) rfl rfl ?_
                    refine Fw.s (Fw.val_move rfl) rfl ?_
                    refine Fw.call cf14 rfl rfl (reached_any _ (some ⟨gS35, 0, none⟩) ([0, 1, 2] : List Int) 3 none [] 0 (hAo.low HB) (Rd.nil _ _) (by decide) (by decide) Ay (El.yes (G t) (wh : Int)) cy (Rd.of_own HY) hyl) ?_
                    rintro e_ w47 ⟨b161, rfl, h161, hb⟩
                    refine ⟨_, rfl, ?_⟩
                    replace HMR := HMR.low hb
                    replace HY := own_below HY hb (Nat.le_refl _)
                    replace HB := HB.trans (hb.mono HB.size)
                    clear hb
                    refine Fw.s (Fw.val_move rfl) rfl ?_
                    refine Fw.s (Fw.val_move rfl) rfl ?_
                    refine Fw.s (Fw.val_bin rfl rfl Fw.b_eql) rfl ?_
                    refine Fw.s (Fw.Val.F (Fw.val_bin rfl rfl (Fw.b_neqB Try.underlying4)) (by intro h_; apply h_; rw [Bool.eq_iff_iff, h161, decide_eq_true_eq]; exact El.won_iff (hok t) hwon wh)) rfl ?_
                    refine Fw.nil ?_
                    refine hK102 _ _ (Fw.FC.sub (f' := [(165, _), (140, _), (19, _), (18, _), (122, _), (5, _), (6, _)]) (.cons rfl (.cons rfl (.cons rfl (.cons rfl (.cons rfl (.cons rfl (.cons rfl .nil))))))) ?_)
                    refine Fw.condF rfl ?_
                    refine Fw.skip ?_
                    refine Fw.X_blockN (id := 7) ?_
                    refine hK87 _ _ ?_
                    refine Fw.region ?_
                    refine Fw.s (Fw.val_bin rfl rfl (Fw.b_add (Fw.i64_ok (by omega)))) rfl ?_
                    refine Fw.s (Fw.val_move rfl) rfl ?_
                    refine Fw.nil ?_
                    refine Fw.roundEnd _ _ (by omega) ⟨wh + 1, rfl, by omega, HMR, HB, rfl⟩ (.cons rfl (.cons rfl (.cons rfl (.cons rfl (.cons rfl (.cons rfl .nil))))))
                · rintro hw3
                  refine Fw.nil ?_
                  refine hK84 _ _ ?_
                  refine Fw.seq fun _ hK103 => ?_
                  refine Fw.condF rfl ?_
                  refine Fw.exit ?_
                  refine Fw.X_exit ?_
                  refine Fw.X_exit ?_
                  refine Fw.X_block ?_
                  refine Fw.X_blockN (id := 5) ?_
                  refine Fw.roundEnd _ _ (by omega) ⟨cnt2, _, rfl, HMR, HB, rfl⟩ (.cons rfl (.cons rfl (.cons rfl .nil)))
      · skip
        refine Fw.seq fun _ hK104 => ?_
        refine Fw.region ?_
        refine Fw.s (Fw.val_move rfl) rfl ?_
        refine Fw.s2 (Fw.val_bin rfl rfl Fw.b_neq) rfl ?_ ?_
        · rintro hq8
          refine Fw.nil ?_
          refine hK104 _ _ ?_
          refine Fw.condT rfl ?_
          refine Fw.region ?_
          refine Fw.ldA ag26 rfl (Fw.rdBlk HP) rfl rfl ?_
          refine Fw.storeW sz26 rfl rfl HJ rfl rfl (by exact Fw.oneCells rfl) ?_
          intro w48 N_ hc
          replace HS35 := HS35.chg hc (by omega)
          replace HP := HP.chg hc (by omega)
          replace HB6 := HB6.trans (hc.below (fun k e => by omega) HB6.size)
          replace HB := HB.trans (hc.below (B := w.heap.size) (fun k e => by omega) HB.size)
          clear hc
          clear HJ
          have HJ := N_
          clear N_
          replace HJ : Blk w48 gJ 26 #[.slice (some ⟨gS35, 0, none⟩) 3 3, .slice none 0 0] := HJ
          refine Fw.nil ?_
          have HJX : ∃ (A1 : Option Addr) (c1 : Nat) (A2 : Option Addr) (nw : List Int) (c2 : Nat), Blk w48 gJ 26 #[.slice A1 3 c1, .slice A2 nw.length c2] ∧ Rd w48 A1 (([0, 1, 2] : List Int).map (Value.int .i64)) ∧ Rd w48 A2 (nw.map (Value.int .i64)) ∧ nw.length ≤ 9 := ⟨some ⟨gS35, 0, none⟩, 3, none, [], 0, HJ, Fw.rdBlk HS35, Rd.nil _ _, by simp⟩
          exact hK12 _ _ ⟨HP, HS35, HJX, HB⟩ (.cons rfl (.cons rfl (.cons rfl .nil)))
        · rintro hq8
          refine Fw.nil ?_
          refine hK104 _ _ ?_
          refine Fw.condF rfl ?_
          refine Fw.skip ?_
          have HJX : ∃ (A1 : Option Addr) (c1 : Nat) (A2 : Option Addr) (nw : List Int) (c2 : Nat), Blk w6 gJ 26 #[.slice A1 3 c1, .slice A2 nw.length c2] ∧ Rd w6 A1 (([0, 1, 2] : List Int).map (Value.int .i64)) ∧ Rd w6 A2 (nw.map (Value.int .i64)) ∧ nw.length ≤ 9 := by
            have e0 : eb = 0 := Classical.byContradiction fun h_ => hq8 h_
            rcases hbg with ⟨_, _, e1, e2, hR1, hR2⟩ | ⟨_, h_⟩
            · rw [e1, e2] at HJ
              exact ⟨A1, c1, A2, nx, c2, HJ, hR1.low HB6, hR2.low HB6, by omega⟩
            · omega
          exact hK12 _ _ ⟨HP, HS35, HJX, HB⟩ (.cons rfl (.cons rfl (.cons rfl .nil)))

end Go.Proofs.Ytgpdodhegacndaa
