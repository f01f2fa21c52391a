/- Layer 28: OrderFenceMatchesModel walked. -/
import Derived.Test.YtikbenngbaicoaaOrO
namespace Go.Proofs.Ytikbenngbaicoaa
set_option linter.unusedSimpArgs false
set_option linter.unusedVariables false
open Go.RowKit
attribute [local go_sem ↓] Go.wp_at_zero Go.wp_at_succ

/-- a slice of orders that is only read -/
def Orders (w : World) (A : Option Addr) (l : List Or.O) : Prop :=
  ∀ k, (h : k < l.length) → ∃ ad b o, A = some ad ∧ ad.add (k * 5) = ⟨b, o, none⟩ ∧ w.cell? ⟨b, o, none⟩ = some (.int .i64 l[k].u) ∧ w.cell? ⟨b, o + 1, none⟩ = some (.int .i64 l[k].e) ∧
    w.cell? ⟨b, o + 2, none⟩ = some (.int .i64 l[k].k) ∧ w.cell? ⟨b, o + 3, none⟩ = some (.int .i64 l[k].i) ∧ w.cell? ⟨b, o + 4, none⟩ = some (.int .i64 l[k].n)
theorem Orders.low {w w' : World} {A : Option Addr} {l : List Or.O} (h : Orders w A l) (hb : Below w.heap.size w w') : Orders w' A l := fun k hk => by
  obtain ⟨ad, b, o, e, ha, h0, h1, h2, h3, h4⟩ := h k hk
  have up : ∀ {p : Addr} {v : Value}, w.cell? p = some v → w'.cell? p = some v := fun {p v} hc => (hb.cell (World.block_lt_of_cell? w p hc)).trans hc
  exact ⟨ad, b, o, e, ha, up h0, up h1, up h2, up h3, up h4⟩

namespace Or
theorem zero64 : O64 zero := by unfold O64 Wr.I64 zero; decide
theorem acc64 {f : F} (h : O64 f.o) {o : O} (ho : O64 o) : O64 (acc f o).o := by unfold acc; split; exact h; exact ho
theorem acc_u (f : F) (o : O) : (acc f o).u = f.u := by unfold acc; split <;> rfl
theorem marsh_put {f : F} (h : Inv f) : marsh f = put f.o := by
  unfold marsh
  cases ha : f.a with
  | true => rfl
  | false => rw [h.1 ha]; decide +kernel
end Or

set_option maxRecDepth 100000 in
set_option maxHeartbeats 2000000 in
theorem matches_walk (u : Int) (A : Option Addr) (l : List Or.O) (c : Nat) (w : World) (h : Orders w A l) (h64 : ∀ o ∈ l, Or.O64 o) (hl : l.length ≤ maxLen) :
    Calls Try.prog 3 #[.int .i64 u, .slice A l.length c] w fun e w' => e = .returned (.bool true) ∧ Below w.heap.size w w' := by
  unfold maxLen at hl
  have HA := Lib.hid h
  have H64 := Lib.hid h64
  clear h h64
  by_cases h60 : l.length ≤ 60
  · cases hu : Or.vu u with
    | false =>
      have HU := Lib.hid hu
      clear hu
      go_enter Try.func3, Try.ntmps3
      go_wp2_with fail
      refine (alive_any _).mono ?_
      rintro e w0 ⟨rfl, hb⟩
      have HB0 := Lib.hid hb
      clear hb
      go_wp2_with fail
      refine (newFence_bad _ _ HU.out).mono ?_
      rintro e w' ⟨rfl, rfl⟩
      go_wp2_with fail
      refine (ropen_unit u none [] 0 _ HU.out).mono ?_
      rintro e w1 ⟨rfl, hb⟩
      have HB1 := Lib.hid (HB0.out.trans (hb.mono HB0.out.size))
      clear hb
      go_wp2
      go_ret
      exact ⟨rfl, HB1.out.alloc HB1.out.size _⟩
    | true =>
      have HU := Lib.hid hu
      clear hu
      have HB := Lib.hid (Below.refl w.heap.size w)
      go_enter Try.func3, Try.ntmps3
      go_wp2_with fail
      refine (alive_any _).mono ?_
      rintro e w0 ⟨rfl, hb⟩
      have TB_ := Lib.hid (HB.out.trans (hb.mono HB.out.size))
      clear HB 
      have HB := Lib.hid TB_.out
      clear TB_ 
      clear hb
      go_wp2_with fail
      refine (newFence_ok _ _ HU.out).mono ?_
      obtain ⟨p, hp⟩ : ∃ p, w0.heap.size = p := ⟨_, rfl⟩
      have hpw : w.heap.size ≤ p := by have := HB.out.size; omega
      rw [hp]
      rintro e w1 ⟨rfl, hf, hb⟩
      have HF := Lib.hid (show Blk w1 p 64 #[.int .i64 (Or.new u).u, .int .i64 (Or.new u).o.u, .int .i64 (Or.new u).o.e, .int .i64 (Or.new u).o.k, .int .i64 (Or.new u).o.i, .int .i64 (Or.new u).o.n, .bool (Or.new u).a] from hf)
      have TB_ := Lib.hid (HB.out.trans (hb.mono hpw))
      clear hf hb hp HB
      have HB := Lib.hid TB_.out
      clear TB_
      have ltF_ := HF.out.lt
      go_wp2_with fail
      refine (ropen_empty u none 0 _ HU.out).mono ?_
      rintro e w2 ⟨rfl, hb⟩
      have TF_ := Lib.hid (HF.out.low hb)
      have TB_ := Lib.hid (HB.out.trans (hb.mono HB.out.size))
      clear ltF_
      clear HB HF
      have HF := Lib.hid TF_.out
      have HB := Lib.hid TB_.out
      clear TB_ TF_
      clear hb
      have ltF_ := HF.out.lt
      go_wp2_with fail
      obtain ⟨b7, hbk_⟩ : ∃ b, w2.heap.size = b := ⟨_, rfl⟩
      have NG_ := Lib.hid (Blk.new' w2 31 #[.int .i64 u, .int .i64 0, .int .i64 0, .int .i64 0, .int .i64 0, .int .i64 0] b7 hbk_)
      have oFG_ : p < b7 := by have := HF.out.lt; omega
      have TF_ := Lib.hid ((HF.out.low ((Below.refl _ _).alloc (Nat.le_refl _) (.cells #[.int .i64 u, .int .i64 0, .int .i64 0, .int .i64 0, .int .i64 0, .int .i64 0] 31))))
      have TB_ := Lib.hid (HB.out.alloc HB.out.size (.cells #[.int .i64 u, .int .i64 0, .int .i64 0, .int .i64 0, .int .i64 0, .int .i64 0] 31))
      clear ltF_
      clear HB HF
      have HF := Lib.hid TF_.out
      have HB := Lib.hid TB_.out
      clear TB_ TF_
      try rw [hbk_]
      obtain ⟨w3, hw_⟩ : ∃ w', w2.alloc (.cells #[.int .i64 u, .int .i64 0, .int .i64 0, .int .i64 0, .int .i64 0, .int .i64 0] 31) = w' := ⟨_, rfl⟩
      rw [hw_] at NG_ HB HF ⊢
      have HG := Lib.hid NG_.out
      clear hw_ hbk_ NG_
      have ltF_ := HF.out.lt
      have g0_ : w3.cell? ⟨b7, 0, none⟩ = some (.int .i64 u) := HG.out.cell 0
      have g1_ : w3.cell? ⟨b7, 1, none⟩ = some (.int .i64 0) := HG.out.cell 1
      have g2_ : w3.cell? ⟨b7, 2, none⟩ = some (.int .i64 0) := HG.out.cell 2
      have g3_ : w3.cell? ⟨b7, 3, none⟩ = some (.int .i64 0) := HG.out.cell 3
      have g4_ : w3.cell? ⟨b7, 4, none⟩ = some (.int .i64 0) := HG.out.cell 4
      have g5_ : w3.cell? ⟨b7, 5, none⟩ = some (.int .i64 0) := HG.out.cell 5
      have ltG_ := HG.out.lt
      clear ltF_ g0_ g1_ g2_ g3_ g4_ g5_ ltG_
      go_loopw [47] (fun i wr => ∃ (k : Nat) (f : Or.F), k ≤ l.length ∧ i = .int .i64 k ∧ Hid (Blk wr p 64 #[.int .i64 f.u, .int .i64 f.o.u, .int .i64 f.o.e, .int .i64 f.o.k, .int .i64 f.o.i, .int .i64 f.o.n, .bool f.a] ∧ Blk wr b7 31 #[.int .i64 f.u, .int .i64 f.o.u, .int .i64 f.o.e, .int .i64 f.o.k, .int .i64 f.o.i, .int .i64 f.o.n] ∧ Or.Inv f ∧ Or.O64 f.o ∧ Below w.heap.size w wr)) (fun i _ => l.length - (intOf i).toNat)
      case atStart => exact ⟨0, Or.new u, Nat.zero_le _, rfl, ⟨HF.out, HG.out, Or.Inv.new u, Or.zero64, HB.out⟩⟩
      case round =>
        obtain ⟨k, f, hk, rfl, hrel⟩ := hrel
        clear HF HG HB
        have HF := Lib.hid hrel.out.1
        have HG := Lib.hid hrel.out.2.1
        have HI := Lib.hid hrel.out.2.2.1
        have HO64 := Lib.hid hrel.out.2.2.2.1
        have HB := Lib.hid hrel.out.2.2.2.2
        clear hrel
        by_cases hlt : k < l.length
        · skip

          obtain ⟨ad, b, of_, hA, hadd, h0, h1, h2, h3, h4⟩ := (HA.out.low HB.out) k hlt
          obtain ⟨o, ho⟩ : ∃ o, l[k] = o := ⟨_, rfl⟩
          rw [ho] at h0 h1 h2 h3 h4
          have HO := Lib.hid (show Or.O64 o from ho ▸ H64.out l[k] (List.getElem_mem hlt))
          subst hA
          clear ho
          go_wp2_with fail
          obtain ⟨bx, hbk_⟩ : ∃ b, wr.heap.size = b := ⟨_, rfl⟩
          have NX_ := Lib.hid (Blk.new' wr 29 #[.int .i64 o.u, .int .i64 o.e, .int .i64 o.k, .int .i64 o.i, .int .i64 o.n] bx hbk_)
          have oFX_ : p < bx := by have := HF.out.lt; omega
          have oGX_ : b7 < bx := by have := HG.out.lt; omega
          have TF_ := Lib.hid ((HF.out.low ((Below.refl _ _).alloc (Nat.le_refl _) (.cells #[.int .i64 o.u, .int .i64 o.e, .int .i64 o.k, .int .i64 o.i, .int .i64 o.n] 29))))
          have TG_ := Lib.hid ((HG.out.low ((Below.refl _ _).alloc (Nat.le_refl _) (.cells #[.int .i64 o.u, .int .i64 o.e, .int .i64 o.k, .int .i64 o.i, .int .i64 o.n] 29))))
          have TB_ := Lib.hid (HB.out.alloc HB.out.size (.cells #[.int .i64 o.u, .int .i64 o.e, .int .i64 o.k, .int .i64 o.i, .int .i64 o.n] 29))
          clear HB HF HG
          have HF := Lib.hid TF_.out
          have HG := Lib.hid TG_.out
          have HB := Lib.hid TB_.out
          clear TB_ TF_ TG_
          try rw [hbk_]
          obtain ⟨r1, hw_⟩ : ∃ w', wr.alloc (.cells #[.int .i64 o.u, .int .i64 o.e, .int .i64 o.k, .int .i64 o.i, .int .i64 o.n] 29) = w' := ⟨_, rfl⟩
          rw [hw_] at NX_ HB HF HG ⊢
          have HX := Lib.hid NX_.out
          clear hw_ hbk_ NX_
          have ltF_ := HF.out.lt
          have g0_ : r1.cell? ⟨b7, 0, none⟩ = some (.int .i64 f.u) := HG.out.cell 0
          have g1_ : r1.cell? ⟨b7, 1, none⟩ = some (.int .i64 f.o.u) := HG.out.cell 1
          have g2_ : r1.cell? ⟨b7, 2, none⟩ = some (.int .i64 f.o.e) := HG.out.cell 2
          have g3_ : r1.cell? ⟨b7, 3, none⟩ = some (.int .i64 f.o.k) := HG.out.cell 3
          have g4_ : r1.cell? ⟨b7, 4, none⟩ = some (.int .i64 f.o.i) := HG.out.cell 4
          have g5_ : r1.cell? ⟨b7, 5, none⟩ = some (.int .i64 f.o.n) := HG.out.cell 5
          have zg0_ : r1.frozen? ⟨b7, 0, none⟩ = false := HG.out.frozen 0
          have zg1_ : r1.frozen? ⟨b7, 1, none⟩ = false := HG.out.frozen 1
          have zg2_ : r1.frozen? ⟨b7, 2, none⟩ = false := HG.out.frozen 2
          have zg3_ : r1.frozen? ⟨b7, 3, none⟩ = false := HG.out.frozen 3
          have zg4_ : r1.frozen? ⟨b7, 4, none⟩ = false := HG.out.frozen 4
          have zg5_ : r1.frozen? ⟨b7, 5, none⟩ = false := HG.out.frozen 5
          have ltG_ := HG.out.lt
          have x0_ : r1.cell? ⟨bx, 0, none⟩ = some (.int .i64 o.u) := HX.out.cell 0
          have x1_ : r1.cell? ⟨bx, 1, none⟩ = some (.int .i64 o.e) := HX.out.cell 1
          have x2_ : r1.cell? ⟨bx, 2, none⟩ = some (.int .i64 o.k) := HX.out.cell 2
          have x3_ : r1.cell? ⟨bx, 3, none⟩ = some (.int .i64 o.i) := HX.out.cell 3
          have x4_ : r1.cell? ⟨bx, 4, none⟩ = some (.int .i64 o.n) := HX.out.cell 4
          have ltX_ := HX.out.lt
          clear h0 h1 h2 h3 h4
          obtain ⟨ra, hra⟩ : ∃ b, Or.accB f o = b := ⟨_, rfl⟩
          obtain ⟨re, hre⟩ : ∃ e, Or.accE f o = e := ⟨_, rfl⟩
          obtain ⟨g, hg⟩ : ∃ g, Or.acc f o = g := ⟨_, rfl⟩
          have HRA := Lib.hid hra
          have HRE := Lib.hid hre
          have HGG := Lib.hid hg
          have HIG := Lib.hid (show Or.Inv g from hg ▸ HI.out.acc o)
          have HG64 := Lib.hid (show Or.O64 g.o from hg ▸ Or.acc64 HO64.out HO.out)
          clear hra hre hg
          go_wp2_with fail
          refine (accept_any p f o _ HF.out).mono ?_
          rw [HRA.out, HRE.out, HGG.out]
          rintro e r2 ⟨rfl, hf, hb⟩
          have TG_ := Lib.hid (HG.out.chg hb (by omega))
          have TX_ := Lib.hid (HX.out.chg hb (by omega))
          have TB_ := Lib.hid (HB.out.trans (hb.below (B := w.heap.size) (fun k e => by omega) HB.out.size))
          clear ltF_ g0_ g1_ g2_ g3_ g4_ g5_ zg0_ zg1_ zg2_ zg3_ zg4_ zg5_ ltG_ x0_ x1_ x2_ x3_ x4_ ltX_
          clear HB HG HX
          have HG := Lib.hid TG_.out
          have HX := Lib.hid TX_.out
          have HB := Lib.hid TB_.out
          clear TB_ TG_ TX_
          have HF0 := Lib.hid HF.out
          clear HF
          have HF := Lib.hid (show Blk r2 p 64 #[.int .i64 g.u, .int .i64 g.o.u, .int .i64 g.o.e, .int .i64 g.o.k, .int .i64 g.o.i, .int .i64 g.o.n, .bool g.a] from hf)
          clear hf HF0
          clear hb
          have ltF_ := HF.out.lt
          have g0_ : r2.cell? ⟨b7, 0, none⟩ = some (.int .i64 f.u) := HG.out.cell 0
          have g1_ : r2.cell? ⟨b7, 1, none⟩ = some (.int .i64 f.o.u) := HG.out.cell 1
          have g2_ : r2.cell? ⟨b7, 2, none⟩ = some (.int .i64 f.o.e) := HG.out.cell 2
          have g3_ : r2.cell? ⟨b7, 3, none⟩ = some (.int .i64 f.o.k) := HG.out.cell 3
          have g4_ : r2.cell? ⟨b7, 4, none⟩ = some (.int .i64 f.o.i) := HG.out.cell 4
          have g5_ : r2.cell? ⟨b7, 5, none⟩ = some (.int .i64 f.o.n) := HG.out.cell 5
          have zg0_ : r2.frozen? ⟨b7, 0, none⟩ = false := HG.out.frozen 0
          have zg1_ : r2.frozen? ⟨b7, 1, none⟩ = false := HG.out.frozen 1
          have zg2_ : r2.frozen? ⟨b7, 2, none⟩ = false := HG.out.frozen 2
          have zg3_ : r2.frozen? ⟨b7, 3, none⟩ = false := HG.out.frozen 3
          have zg4_ : r2.frozen? ⟨b7, 4, none⟩ = false := HG.out.frozen 4
          have zg5_ : r2.frozen? ⟨b7, 5, none⟩ = false := HG.out.frozen 5
          have ltG_ := HG.out.lt
          have x0_ : r2.cell? ⟨bx, 0, none⟩ = some (.int .i64 o.u) := HX.out.cell 0
          have x1_ : r2.cell? ⟨bx, 1, none⟩ = some (.int .i64 o.e) := HX.out.cell 1
          have x2_ : r2.cell? ⟨bx, 2, none⟩ = some (.int .i64 o.k) := HX.out.cell 2
          have x3_ : r2.cell? ⟨bx, 3, none⟩ = some (.int .i64 o.i) := HX.out.cell 3
          have x4_ : r2.cell? ⟨bx, 4, none⟩ = some (.int .i64 o.n) := HX.out.cell 4
          have ltX_ := HX.out.lt
          go_wp2_with fail
          refine (take_any f o _).mono ?_
          rw [(Or.tk_acc HI.out o).1, (Or.tk_acc HI.out o).2, HRA.out, HRE.out, HGG.out]
          rintro e r3 ⟨rfl, hb⟩
          have TF_ := Lib.hid (HF.out.low hb)
          have TG_ := Lib.hid (HG.out.low hb)
          have TX_ := Lib.hid (HX.out.low hb)
          have TB_ := Lib.hid (HB.out.trans (hb.mono HB.out.size))
          clear ltF_ g0_ g1_ g2_ g3_ g4_ g5_ zg0_ zg1_ zg2_ zg3_ zg4_ zg5_ ltG_ x0_ x1_ x2_ x3_ x4_ ltX_
          clear HB HF HG HX
          have HF := Lib.hid TF_.out
          have HG := Lib.hid TG_.out
          have HX := Lib.hid TX_.out
          have HB := Lib.hid TB_.out
          clear TB_ TF_ TG_ TX_
          clear hb
          have ltF_ := HF.out.lt
          have g0_ : r3.cell? ⟨b7, 0, none⟩ = some (.int .i64 f.u) := HG.out.cell 0
          have g1_ : r3.cell? ⟨b7, 1, none⟩ = some (.int .i64 f.o.u) := HG.out.cell 1
          have g2_ : r3.cell? ⟨b7, 2, none⟩ = some (.int .i64 f.o.e) := HG.out.cell 2
          have g3_ : r3.cell? ⟨b7, 3, none⟩ = some (.int .i64 f.o.k) := HG.out.cell 3
          have g4_ : r3.cell? ⟨b7, 4, none⟩ = some (.int .i64 f.o.i) := HG.out.cell 4
          have g5_ : r3.cell? ⟨b7, 5, none⟩ = some (.int .i64 f.o.n) := HG.out.cell 5
          have zg0_ : r3.frozen? ⟨b7, 0, none⟩ = false := HG.out.frozen 0
          have zg1_ : r3.frozen? ⟨b7, 1, none⟩ = false := HG.out.frozen 1
          have zg2_ : r3.frozen? ⟨b7, 2, none⟩ = false := HG.out.frozen 2
          have zg3_ : r3.frozen? ⟨b7, 3, none⟩ = false := HG.out.frozen 3
          have zg4_ : r3.frozen? ⟨b7, 4, none⟩ = false := HG.out.frozen 4
          have zg5_ : r3.frozen? ⟨b7, 5, none⟩ = false := HG.out.frozen 5
          have ltG_ := HG.out.lt
          have x0_ : r3.cell? ⟨bx, 0, none⟩ = some (.int .i64 o.u) := HX.out.cell 0
          have x1_ : r3.cell? ⟨bx, 1, none⟩ = some (.int .i64 o.e) := HX.out.cell 1
          have x2_ : r3.cell? ⟨bx, 2, none⟩ = some (.int .i64 o.k) := HX.out.cell 2
          have x3_ : r3.cell? ⟨bx, 3, none⟩ = some (.int .i64 o.i) := HX.out.cell 3
          have x4_ : r3.cell? ⟨bx, 4, none⟩ = some (.int .i64 o.n) := HX.out.cell 4
          have ltX_ := HX.out.lt
          go_wp2_with fail
          have hc_ : Chg (· = b7) r3 (((((((r3).setCell ⟨b7, 0, none⟩ (.int .i64 g.u)).setCell ⟨b7, 1, none⟩ (.int .i64 g.o.u)).setCell ⟨b7, 2, none⟩ (.int .i64 g.o.e)).setCell ⟨b7, 3, none⟩ (.int .i64 g.o.k)).setCell ⟨b7, 4, none⟩ (.int .i64 g.o.i)).setCell ⟨b7, 5, none⟩ (.int .i64 g.o.n)) := (((((Chg.setCell (r3) ⟨b7, 0, none⟩ (.int .i64 g.u)).trans (Chg.setCell ((r3).setCell ⟨b7, 0, none⟩ (.int .i64 g.u)) ⟨b7, 1, none⟩ (.int .i64 g.o.u)) (fun _ _ h => h)).trans (Chg.setCell (((r3).setCell ⟨b7, 0, none⟩ (.int .i64 g.u)).setCell ⟨b7, 1, none⟩ (.int .i64 g.o.u)) ⟨b7, 2, none⟩ (.int .i64 g.o.e)) (fun _ _ h => h)).trans (Chg.setCell ((((r3).setCell ⟨b7, 0, none⟩ (.int .i64 g.u)).setCell ⟨b7, 1, none⟩ (.int .i64 g.o.u)).setCell ⟨b7, 2, none⟩ (.int .i64 g.o.e)) ⟨b7, 3, none⟩ (.int .i64 g.o.k)) (fun _ _ h => h)).trans (Chg.setCell (((((r3).setCell ⟨b7, 0, none⟩ (.int .i64 g.u)).setCell ⟨b7, 1, none⟩ (.int .i64 g.o.u)).setCell ⟨b7, 2, none⟩ (.int .i64 g.o.e)).setCell ⟨b7, 3, none⟩ (.int .i64 g.o.k)) ⟨b7, 4, none⟩ (.int .i64 g.o.i)) (fun _ _ h => h)).trans (Chg.setCell ((((((r3).setCell ⟨b7, 0, none⟩ (.int .i64 g.u)).setCell ⟨b7, 1, none⟩ (.int .i64 g.o.u)).setCell ⟨b7, 2, none⟩ (.int .i64 g.o.e)).setCell ⟨b7, 3, none⟩ (.int .i64 g.o.k)).setCell ⟨b7, 4, none⟩ (.int .i64 g.o.i)) ⟨b7, 5, none⟩ (.int .i64 g.o.n)) (fun _ _ h => h)
          have NG_ := Lib.hid (show Blk (((((((r3).setCell ⟨b7, 0, none⟩ (.int .i64 g.u)).setCell ⟨b7, 1, none⟩ (.int .i64 g.o.u)).setCell ⟨b7, 2, none⟩ (.int .i64 g.o.e)).setCell ⟨b7, 3, none⟩ (.int .i64 g.o.k)).setCell ⟨b7, 4, none⟩ (.int .i64 g.o.i)).setCell ⟨b7, 5, none⟩ (.int .i64 g.o.n)) b7 31 #[.int .i64 g.u, .int .i64 g.o.u, .int .i64 g.o.e, .int .i64 g.o.k, .int .i64 g.o.i, .int .i64 g.o.n] from ((((((HG.out).set_ 0 (.int .i64 g.u)).set_ 1 (.int .i64 g.o.u)).set_ 2 (.int .i64 g.o.e)).set_ 3 (.int .i64 g.o.k)).set_ 4 (.int .i64 g.o.i)).set_ 5 (.int .i64 g.o.n))
          have TF_ := Lib.hid (HF.out.chg hc_ (by omega))
          have TX_ := Lib.hid (HX.out.chg hc_ (by omega))
          have TB_ := Lib.hid (HB.out.trans (hc_.below (B := w.heap.size) (fun k e => by omega) HB.out.size))
          clear ltF_ g0_ g1_ g2_ g3_ g4_ g5_ zg0_ zg1_ zg2_ zg3_ zg4_ zg5_ ltG_ x0_ x1_ x2_ x3_ x4_ ltX_
          clear HB HF HX
          have HF := Lib.hid TF_.out
          have HX := Lib.hid TX_.out
          have HB := Lib.hid TB_.out
          clear TB_ TF_ TX_
          obtain ⟨r4, hw_⟩ : ∃ w', ((((((r3).setCell ⟨b7, 0, none⟩ (.int .i64 g.u)).setCell ⟨b7, 1, none⟩ (.int .i64 g.o.u)).setCell ⟨b7, 2, none⟩ (.int .i64 g.o.e)).setCell ⟨b7, 3, none⟩ (.int .i64 g.o.k)).setCell ⟨b7, 4, none⟩ (.int .i64 g.o.i)).setCell ⟨b7, 5, none⟩ (.int .i64 g.o.n) = w' := ⟨_, rfl⟩
          rw [hw_] at NG_ HB HF HX ⊢
          clear HG
          have HG := Lib.hid NG_.out
          clear hw_ hc_ NG_
          obtain ⟨bn, hbk_⟩ : ∃ b, r4.heap.size = b := ⟨_, rfl⟩
          have NN_ := Lib.hid (Blk.new' r4 31 #[.int .i64 g.u, .int .i64 g.o.u, .int .i64 g.o.e, .int .i64 g.o.k, .int .i64 g.o.i, .int .i64 g.o.n] bn hbk_)
          have oFN_ : p < bn := by have := HF.out.lt; omega
          have oGN_ : b7 < bn := by have := HG.out.lt; omega
          have oXN_ : bx < bn := by have := HX.out.lt; omega
          have TF_ := Lib.hid ((HF.out.low ((Below.refl _ _).alloc (Nat.le_refl _) (.cells #[.int .i64 g.u, .int .i64 g.o.u, .int .i64 g.o.e, .int .i64 g.o.k, .int .i64 g.o.i, .int .i64 g.o.n] 31))))
          have TG_ := Lib.hid ((HG.out.low ((Below.refl _ _).alloc (Nat.le_refl _) (.cells #[.int .i64 g.u, .int .i64 g.o.u, .int .i64 g.o.e, .int .i64 g.o.k, .int .i64 g.o.i, .int .i64 g.o.n] 31))))
          have TX_ := Lib.hid ((HX.out.low ((Below.refl _ _).alloc (Nat.le_refl _) (.cells #[.int .i64 g.u, .int .i64 g.o.u, .int .i64 g.o.e, .int .i64 g.o.k, .int .i64 g.o.i, .int .i64 g.o.n] 31))))
          have TB_ := Lib.hid (HB.out.alloc HB.out.size (.cells #[.int .i64 g.u, .int .i64 g.o.u, .int .i64 g.o.e, .int .i64 g.o.k, .int .i64 g.o.i, .int .i64 g.o.n] 31))
          clear HB HF HG HX
          have HF := Lib.hid TF_.out
          have HG := Lib.hid TG_.out
          have HX := Lib.hid TX_.out
          have HB := Lib.hid TB_.out
          clear TB_ TF_ TG_ TX_
          try rw [hbk_]
          obtain ⟨r5, hw_⟩ : ∃ w', r4.alloc (.cells #[.int .i64 g.u, .int .i64 g.o.u, .int .i64 g.o.e, .int .i64 g.o.k, .int .i64 g.o.i, .int .i64 g.o.n] 31) = w' := ⟨_, rfl⟩
          rw [hw_] at NN_ HB HF HG HX ⊢
          have HN := Lib.hid NN_.out
          clear hw_ hbk_ NN_
          have ltF_ := HF.out.lt
          have g0_ : r5.cell? ⟨b7, 0, none⟩ = some (.int .i64 g.u) := HG.out.cell 0
          have g1_ : r5.cell? ⟨b7, 1, none⟩ = some (.int .i64 g.o.u) := HG.out.cell 1
          have g2_ : r5.cell? ⟨b7, 2, none⟩ = some (.int .i64 g.o.e) := HG.out.cell 2
          have g3_ : r5.cell? ⟨b7, 3, none⟩ = some (.int .i64 g.o.k) := HG.out.cell 3
          have g4_ : r5.cell? ⟨b7, 4, none⟩ = some (.int .i64 g.o.i) := HG.out.cell 4
          have g5_ : r5.cell? ⟨b7, 5, none⟩ = some (.int .i64 g.o.n) := HG.out.cell 5
          have ltG_ := HG.out.lt
          have x0_ : r5.cell? ⟨bx, 0, none⟩ = some (.int .i64 o.u) := HX.out.cell 0
          have x1_ : r5.cell? ⟨bx, 1, none⟩ = some (.int .i64 o.e) := HX.out.cell 1
          have x2_ : r5.cell? ⟨bx, 2, none⟩ = some (.int .i64 o.k) := HX.out.cell 2
          have x3_ : r5.cell? ⟨bx, 3, none⟩ = some (.int .i64 o.i) := HX.out.cell 3
          have x4_ : r5.cell? ⟨bx, 4, none⟩ = some (.int .i64 o.n) := HX.out.cell 4
          have ltX_ := HX.out.lt
          have n0_ : r5.cell? ⟨bn, 0, none⟩ = some (.int .i64 g.u) := HN.out.cell 0
          have n1_ : r5.cell? ⟨bn, 1, none⟩ = some (.int .i64 g.o.u) := HN.out.cell 1
          have n2_ : r5.cell? ⟨bn, 2, none⟩ = some (.int .i64 g.o.e) := HN.out.cell 2
          have n3_ : r5.cell? ⟨bn, 3, none⟩ = some (.int .i64 g.o.k) := HN.out.cell 3
          have n4_ : r5.cell? ⟨bn, 4, none⟩ = some (.int .i64 g.o.i) := HN.out.cell 4
          have n5_ : r5.cell? ⟨bn, 5, none⟩ = some (.int .i64 g.o.n) := HN.out.cell 5
          have ltN_ := HN.out.lt
          refine (latest_any p g _ HF.out).mono ?_
          rintro e r6 ⟨rfl, hb⟩
          have TF_ := Lib.hid (HF.out.low hb)
          have TG_ := Lib.hid (HG.out.low hb)
          have TX_ := Lib.hid (HX.out.low hb)
          have TN_ := Lib.hid (HN.out.low hb)
          have TB_ := Lib.hid (HB.out.trans (hb.mono HB.out.size))
          clear ltF_ g0_ g1_ g2_ g3_ g4_ g5_ ltG_ x0_ x1_ x2_ x3_ x4_ ltX_ n0_ n1_ n2_ n3_ n4_ n5_ ltN_
          clear HB HF HG HX HN
          have HF := Lib.hid TF_.out
          have HG := Lib.hid TG_.out
          have HX := Lib.hid TX_.out
          have HN := Lib.hid TN_.out
          have HB := Lib.hid TB_.out
          clear TB_ TF_ TG_ TX_ TN_
          clear hb
          have ltF_ := HF.out.lt
          have g0_ : r6.cell? ⟨b7, 0, none⟩ = some (.int .i64 g.u) := HG.out.cell 0
          have g1_ : r6.cell? ⟨b7, 1, none⟩ = some (.int .i64 g.o.u) := HG.out.cell 1
          have g2_ : r6.cell? ⟨b7, 2, none⟩ = some (.int .i64 g.o.e) := HG.out.cell 2
          have g3_ : r6.cell? ⟨b7, 3, none⟩ = some (.int .i64 g.o.k) := HG.out.cell 3
          have g4_ : r6.cell? ⟨b7, 4, none⟩ = some (.int .i64 g.o.i) := HG.out.cell 4
          have g5_ : r6.cell? ⟨b7, 5, none⟩ = some (.int .i64 g.o.n) := HG.out.cell 5
          have ltG_ := HG.out.lt
          have x0_ : r6.cell? ⟨bx, 0, none⟩ = some (.int .i64 o.u) := HX.out.cell 0
          have x1_ : r6.cell? ⟨bx, 1, none⟩ = some (.int .i64 o.e) := HX.out.cell 1
          have x2_ : r6.cell? ⟨bx, 2, none⟩ = some (.int .i64 o.k) := HX.out.cell 2
          have x3_ : r6.cell? ⟨bx, 3, none⟩ = some (.int .i64 o.i) := HX.out.cell 3
          have x4_ : r6.cell? ⟨bx, 4, none⟩ = some (.int .i64 o.n) := HX.out.cell 4
          have ltX_ := HX.out.lt
          have n0_ : r6.cell? ⟨bn, 0, none⟩ = some (.int .i64 g.u) := HN.out.cell 0
          have n1_ : r6.cell? ⟨bn, 1, none⟩ = some (.int .i64 g.o.u) := HN.out.cell 1
          have n2_ : r6.cell? ⟨bn, 2, none⟩ = some (.int .i64 g.o.e) := HN.out.cell 2
          have n3_ : r6.cell? ⟨bn, 3, none⟩ = some (.int .i64 g.o.k) := HN.out.cell 3
          have n4_ : r6.cell? ⟨bn, 4, none⟩ = some (.int .i64 g.o.i) := HN.out.cell 4
          have n5_ : r6.cell? ⟨bn, 5, none⟩ = some (.int .i64 g.o.n) := HN.out.cell 5
          have ltN_ := HN.out.lt
          go_wp2_with fail
          obtain ⟨bz, hbk_⟩ : ∃ b, r6.heap.size = b := ⟨_, rfl⟩
          have NZ_ := Lib.hid (Blk.new' r6 29 #[.int .i64 g.o.u, .int .i64 g.o.e, .int .i64 g.o.k, .int .i64 g.o.i, .int .i64 g.o.n] bz hbk_)
          have oFZ_ : p < bz := by have := HF.out.lt; omega
          have oGZ_ : b7 < bz := by have := HG.out.lt; omega
          have oXZ_ : bx < bz := by have := HX.out.lt; omega
          have oNZ_ : bn < bz := by have := HN.out.lt; omega
          have TF_ := Lib.hid ((HF.out.low ((Below.refl _ _).alloc (Nat.le_refl _) (.cells #[.int .i64 g.o.u, .int .i64 g.o.e, .int .i64 g.o.k, .int .i64 g.o.i, .int .i64 g.o.n] 29))))
          have TG_ := Lib.hid ((HG.out.low ((Below.refl _ _).alloc (Nat.le_refl _) (.cells #[.int .i64 g.o.u, .int .i64 g.o.e, .int .i64 g.o.k, .int .i64 g.o.i, .int .i64 g.o.n] 29))))
          have TX_ := Lib.hid ((HX.out.low ((Below.refl _ _).alloc (Nat.le_refl _) (.cells #[.int .i64 g.o.u, .int .i64 g.o.e, .int .i64 g.o.k, .int .i64 g.o.i, .int .i64 g.o.n] 29))))
          have TN_ := Lib.hid ((HN.out.low ((Below.refl _ _).alloc (Nat.le_refl _) (.cells #[.int .i64 g.o.u, .int .i64 g.o.e, .int .i64 g.o.k, .int .i64 g.o.i, .int .i64 g.o.n] 29))))
          have TB_ := Lib.hid (HB.out.alloc HB.out.size (.cells #[.int .i64 g.o.u, .int .i64 g.o.e, .int .i64 g.o.k, .int .i64 g.o.i, .int .i64 g.o.n] 29))
          clear ltF_ g0_ g1_ g2_ g3_ g4_ g5_ ltG_ x0_ x1_ x2_ x3_ x4_ ltX_ n0_ n1_ n2_ n3_ n4_ n5_ ltN_
          clear HB HF HG HX HN
          have HF := Lib.hid TF_.out
          have HG := Lib.hid TG_.out
          have HX := Lib.hid TX_.out
          have HN := Lib.hid TN_.out
          have HB := Lib.hid TB_.out
          clear TB_ TF_ TG_ TX_ TN_
          try rw [hbk_]
          obtain ⟨r7, hw_⟩ : ∃ w', r6.alloc (.cells #[.int .i64 g.o.u, .int .i64 g.o.e, .int .i64 g.o.k, .int .i64 g.o.i, .int .i64 g.o.n] 29) = w' := ⟨_, rfl⟩
          rw [hw_] at NZ_ HB HF HG HX HN ⊢
          have HZ := Lib.hid NZ_.out
          clear hw_ hbk_ NZ_
          have ltF_ := HF.out.lt
          have g0_ : r7.cell? ⟨b7, 0, none⟩ = some (.int .i64 g.u) := HG.out.cell 0
          have g1_ : r7.cell? ⟨b7, 1, none⟩ = some (.int .i64 g.o.u) := HG.out.cell 1
          have g2_ : r7.cell? ⟨b7, 2, none⟩ = some (.int .i64 g.o.e) := HG.out.cell 2
          have g3_ : r7.cell? ⟨b7, 3, none⟩ = some (.int .i64 g.o.k) := HG.out.cell 3
          have g4_ : r7.cell? ⟨b7, 4, none⟩ = some (.int .i64 g.o.i) := HG.out.cell 4
          have g5_ : r7.cell? ⟨b7, 5, none⟩ = some (.int .i64 g.o.n) := HG.out.cell 5
          have ltG_ := HG.out.lt
          have x0_ : r7.cell? ⟨bx, 0, none⟩ = some (.int .i64 o.u) := HX.out.cell 0
          have x1_ : r7.cell? ⟨bx, 1, none⟩ = some (.int .i64 o.e) := HX.out.cell 1
          have x2_ : r7.cell? ⟨bx, 2, none⟩ = some (.int .i64 o.k) := HX.out.cell 2
          have x3_ : r7.cell? ⟨bx, 3, none⟩ = some (.int .i64 o.i) := HX.out.cell 3
          have x4_ : r7.cell? ⟨bx, 4, none⟩ = some (.int .i64 o.n) := HX.out.cell 4
          have ltX_ := HX.out.lt
          have n0_ : r7.cell? ⟨bn, 0, none⟩ = some (.int .i64 g.u) := HN.out.cell 0
          have n1_ : r7.cell? ⟨bn, 1, none⟩ = some (.int .i64 g.o.u) := HN.out.cell 1
          have n2_ : r7.cell? ⟨bn, 2, none⟩ = some (.int .i64 g.o.e) := HN.out.cell 2
          have n3_ : r7.cell? ⟨bn, 3, none⟩ = some (.int .i64 g.o.k) := HN.out.cell 3
          have n4_ : r7.cell? ⟨bn, 4, none⟩ = some (.int .i64 g.o.i) := HN.out.cell 4
          have n5_ : r7.cell? ⟨bn, 5, none⟩ = some (.int .i64 g.o.n) := HN.out.cell 5
          have ltN_ := HN.out.lt
          have z0_ : r7.cell? ⟨bz, 0, none⟩ = some (.int .i64 g.o.u) := HZ.out.cell 0
          have z1_ : r7.cell? ⟨bz, 1, none⟩ = some (.int .i64 g.o.e) := HZ.out.cell 1
          have z2_ : r7.cell? ⟨bz, 2, none⟩ = some (.int .i64 g.o.k) := HZ.out.cell 2
          have z3_ : r7.cell? ⟨bz, 3, none⟩ = some (.int .i64 g.o.i) := HZ.out.cell 3
          have z4_ : r7.cell? ⟨bz, 4, none⟩ = some (.int .i64 g.o.n) := HZ.out.cell 4
          have ltZ_ := HZ.out.lt
          obtain ⟨q, hq⟩ : ∃ q, Or.put g.o = q := ⟨_, rfl⟩
          have HQ := Lib.hid hq
          have HM := Lib.hid (show Or.marsh g = q by rw [Or.marsh_put HIG.out, hq])
          have hie : decide (0 < g.o.e) = g.a := HIG.out.e
          have hra : (ra != ra) = false := bne_self_eq_false ra
          have hre : (re != re) = false := bne_self_eq_false re
          have hga : (g.a != g.a) = false := bne_self_eq_false g.a
          clear hq
          have HF_0 := Lib.hid (Blk.drew HF.out)
          have HG_0 := Lib.hid (Blk.drew HG.out)
          have HX_0 := Lib.hid (Blk.drew HX.out)
          have HN_0 := Lib.hid (Blk.drew HN.out)
          have HZ_0 := Lib.hid (Blk.drew HZ.out)
          have HB_0 := Lib.hid HB.out.drew
          go_region_held_law (fun w' => (((w'.cell? ⟨bz, 0, none⟩ = some (.int .i64 g.o.u) ∧ w'.cell? ⟨bz, 1, none⟩ = some (.int .i64 g.o.e)) ∧ (w'.cell? ⟨bz, 2, none⟩ = some (.int .i64 g.o.k) ∧ (w'.cell? ⟨bz, 3, none⟩ = some (.int .i64 g.o.i) ∧ w'.cell? ⟨bz, 4, none⟩ = some (.int .i64 g.o.n)))) ∧ ((w'.cell? ⟨b7, 0, none⟩ = some (.int .i64 g.u) ∧ (w'.cell? ⟨b7, 1, none⟩ = some (.int .i64 g.o.u) ∧ w'.cell? ⟨b7, 2, none⟩ = some (.int .i64 g.o.e))) ∧ (w'.cell? ⟨b7, 3, none⟩ = some (.int .i64 g.o.k) ∧ (w'.cell? ⟨b7, 4, none⟩ = some (.int .i64 g.o.i) ∧ w'.cell? ⟨b7, 5, none⟩ = some (.int .i64 g.o.n))))))
            (first | with_reducible exact HS_2 | with_reducible exact HS_1 | go_keep)
            (first
              | (go_at_call 15; refine (marshal_any p g _ HF_0.out HG64.out).mono ?_; rw [HM.out]; rintro e w_1 ⟨A_1, c_1, rfl, hown, hb⟩
                 have hF := HF_0.out.low hb
                 have hG := HG_0.out.low hb
                 have hX := HX_0.out.low hb
                 have hN := HN_0.out.low hb
                 have hZ := HZ_0.out.low hb
                 have HS_1 : (((w_1.cell? ⟨bz, 0, none⟩ = some (.int .i64 g.o.u) ∧ w_1.cell? ⟨bz, 1, none⟩ = some (.int .i64 g.o.e)) ∧ (w_1.cell? ⟨bz, 2, none⟩ = some (.int .i64 g.o.k) ∧ (w_1.cell? ⟨bz, 3, none⟩ = some (.int .i64 g.o.i) ∧ w_1.cell? ⟨bz, 4, none⟩ = some (.int .i64 g.o.n)))) ∧ ((w_1.cell? ⟨b7, 0, none⟩ = some (.int .i64 g.u) ∧ (w_1.cell? ⟨b7, 1, none⟩ = some (.int .i64 g.o.u) ∧ w_1.cell? ⟨b7, 2, none⟩ = some (.int .i64 g.o.e))) ∧ (w_1.cell? ⟨b7, 3, none⟩ = some (.int .i64 g.o.k) ∧ (w_1.cell? ⟨b7, 4, none⟩ = some (.int .i64 g.o.i) ∧ w_1.cell? ⟨b7, 5, none⟩ = some (.int .i64 g.o.n))))) := ⟨⟨⟨hZ.cell 0, hZ.cell 1⟩, ⟨hZ.cell 2, ⟨hZ.cell 3, hZ.cell 4⟩⟩⟩, ⟨⟨hG.cell 0, ⟨hG.cell 1, hG.cell 2⟩⟩, ⟨hG.cell 3, ⟨hG.cell 4, hG.cell 5⟩⟩⟩⟩
                 have HF_1 := Lib.hid hF
                 have HG_1 := Lib.hid hG
                 have HX_1 := Lib.hid hX
                 have HN_1 := Lib.hid hN
                 have HZ_1 := Lib.hid hZ
                 have HB_1 := Lib.hid (HB_0.out.trans (hb.mono HB_0.out.size))
                 have HO_1 := Lib.hid hown
                 have s_1 := strU8 w_1 A_1 (q) _ c_1 (Rd.of_own hown) rfl
                 clear hF hG hX hN hZ hb hown)
              | (go_at_call 16; refine (rbytes_any g _ HG64.out).mono ?_; rw [HQ.out]; rintro e w_2 ⟨A_2, c_2, rfl, hown, hb⟩
                 have hF := HF_1.out.low hb
                 have hG := HG_1.out.low hb
                 have hX := HX_1.out.low hb
                 have hN := HN_1.out.low hb
                 have hZ := HZ_1.out.low hb
                 have HS_2 : (((w_2.cell? ⟨bz, 0, none⟩ = some (.int .i64 g.o.u) ∧ w_2.cell? ⟨bz, 1, none⟩ = some (.int .i64 g.o.e)) ∧ (w_2.cell? ⟨bz, 2, none⟩ = some (.int .i64 g.o.k) ∧ (w_2.cell? ⟨bz, 3, none⟩ = some (.int .i64 g.o.i) ∧ w_2.cell? ⟨bz, 4, none⟩ = some (.int .i64 g.o.n)))) ∧ ((w_2.cell? ⟨b7, 0, none⟩ = some (.int .i64 g.u) ∧ (w_2.cell? ⟨b7, 1, none⟩ = some (.int .i64 g.o.u) ∧ w_2.cell? ⟨b7, 2, none⟩ = some (.int .i64 g.o.e))) ∧ (w_2.cell? ⟨b7, 3, none⟩ = some (.int .i64 g.o.k) ∧ (w_2.cell? ⟨b7, 4, none⟩ = some (.int .i64 g.o.i) ∧ w_2.cell? ⟨b7, 5, none⟩ = some (.int .i64 g.o.n))))) := ⟨⟨⟨hZ.cell 0, hZ.cell 1⟩, ⟨hZ.cell 2, ⟨hZ.cell 3, hZ.cell 4⟩⟩⟩, ⟨⟨hG.cell 0, ⟨hG.cell 1, hG.cell 2⟩⟩, ⟨hG.cell 3, ⟨hG.cell 4, hG.cell 5⟩⟩⟩⟩
                 have HF_2 := Lib.hid hF
                 have HG_2 := Lib.hid hG
                 have HX_2 := Lib.hid hX
                 have HN_2 := Lib.hid hN
                 have HZ_2 := Lib.hid hZ
                 have HB_2 := Lib.hid (HB_1.out.trans (hb.mono HB_1.out.size))
                 have HO_1_2 := Lib.hid (HO_1.out.low hb)
                 have s_1_2 := strU8 w_2 A_1 (q) _ c_1 (Rd.of_own HO_1_2.out) rfl
                 have HO_2 := Lib.hid hown
                 have s_2 := strU8 w_2 A_2 (q) _ c_2 (Rd.of_own hown) rfl
                 clear hF hG hX hN hZ hb hown))
          all_goals
            go_wp2
            go_roundw
            case rel => exact ⟨k + 1, g, by omega, by go_num, ⟨HF_2.out, HG_2.out, HIG.out, HG64.out, HB_2.out⟩⟩
            case measure => simp [intOf]; omega
        · go_wp2
          go_ret
          exact ⟨rfl, HB.out⟩
  · go_enter Try.func3, Try.ntmps3
    go_wp2_with (go_at_call 9; refine (alive_any _).mono ?_; rintro e w0 ⟨rfl, hb⟩; have HB0 := Lib.hid hb; clear hb)
    go_ret
    exact ⟨rfl, HB0.out⟩
end Go.Proofs.Ytikbenngbaicoaa
