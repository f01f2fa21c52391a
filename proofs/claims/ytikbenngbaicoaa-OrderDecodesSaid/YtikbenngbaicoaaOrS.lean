/- Layer 28: OrderFenceKeepsNewest walked. -/
import Derived.Test.YtikbenngbaicoaaOrQ
namespace Go.Proofs.Ytikbenngbaicoaa
set_option linter.unusedSimpArgs false
set_option linter.unusedVariables false
open Go.RowKit

namespace Or
def stand (e : Int) : O := ⟨1, e, 2, 0, 0⟩
/-- what the fence holds is for its own unit -/
def Mine (f : F) : Prop := f.a = true → f.o.u = f.u
theorem Mine.acc {f : F} (h : Mine f) {o : O} (hu : o.u = f.u) : Mine (acc f o) := by
  unfold Or.acc
  split
  · exact h
  · exact fun _ => hu
theorem go_ok {e : Int} (h : 1 ≤ e ∧ e ≤ 65536) : valid (go e) = true ∧ O64 (go e) := by
  refine ⟨?_, ?_⟩
  · have : rg e 1 = true := decide_eq_true (by omega)
    unfold valid go; simp only; rw [this]; rfl
  · unfold O64 Wr.I64 go; simp only; omega
theorem stand_ok {e : Int} (h : 1 ≤ e ∧ e ≤ 65536) : valid (stand e) = true ∧ O64 (stand e) := by
  refine ⟨?_, ?_⟩
  · have : rg e 1 = true := decide_eq_true (by omega)
    unfold valid stand; simp only; rw [this]; rfl
  · unfold O64 Wr.I64 stand; simp only; omega
/-- an order to the fence's own unit -/
theorem acc_newest {f : F} (hi : Inv f) {o : O} (hv : valid o = true) (hu : o.u = f.u) :
    accE f o = 0 ∧ accB f o = decide (f.o.e < o.e) ∧ (acc f o).o.e = max f.o.e o.e ∧ (acc f o).a = true ∧ (accB f o = true → (acc f o).o = o) := by
  have hr : refused f o = false := by unfold refused; rw [hv, hu]; simp
  have h1 := valid_e hv
  have hs : stale f o = !decide (f.o.e < o.e) := by
    unfold stale
    cases ha : f.a with
    | true => rw [Bool.true_and, ← decide_not]; congr 1; apply propext; omega
    | false =>
      rw [hi.1 ha]
      have : decide (zero.e < o.e) = true := decide_eq_true (show (0 : Int) < o.e by omega)
      rw [this]; rfl
  unfold accE accB acc
  rw [hr, hs]
  by_cases h : f.o.e < o.e
  · rw [decide_eq_true h]
    exact ⟨rfl, rfl, by show o.e = _; omega, rfl, fun _ => rfl⟩
  · rw [decide_eq_false h]
    refine ⟨rfl, rfl, by show f.o.e = _; omega, ?_, fun h => by cases h⟩
    show f.a = true
    cases ha : f.a with
    | true => rfl
    | false => rw [hi.1 ha] at h; exact absurd (show (0 : Int) < o.e by omega) h
theorem rest_put {u : Int} {o : O} (hv : valid o = true) (h64 : O64 o) (hu : o.u = u) : rest u (put o) = true ∧ decO (put o) = o := by
  obtain ⟨h1, h2⟩ := ok_put h64 hv
  exact ⟨by unfold rest; rw [h1, h2, hu]; simp, h2⟩
end Or

set_option maxRecDepth 100000 in
set_option maxHeartbeats 4000000 in
theorem newest_walk (A : Option Addr) (es : List Int) (c : Nat) (A' : Option Addr) (ks : List Int) (c' : Nat) (A2 : Option Addr) (rs : List Bool) (c2 : Nat) (w : World)
    (he : Rd w A (es.map (.int .u16))) (heb : ∀ x ∈ es, 0 ≤ x ∧ x ≤ 65535) (hk : Rd w A' (ks.map (.int .u8))) (hkb : ∀ x ∈ ks, 0 ≤ x ∧ x ≤ 255) (hr : Rd w A2 (rs.map .bool)) (hl : es.length ≤ maxLen) (hl' : ks.length ≤ maxLen) (hl2 : rs.length ≤ maxLen) :
    Calls Try.prog 7 #[.slice A es.length c, .slice A' ks.length c', .slice A2 rs.length c2] w fun e w' => e = .returned (.bool true) ∧ Below w.heap.size w w' := by
  unfold maxLen at hl hl' hl2
  have HE := Lib.hid he
  have HEB := Lib.hid heb
  have HK := Lib.hid hk
  have HKB := Lib.hid hkb
  have HRS := Lib.hid hr
  clear he heb hk hkb hr
  by_cases h60 : es.length ≤ 60
  · have HB := Lib.hid (Below.refl w.heap.size w)
    go_enter Try.func7, Try.ntmps7
    go_wp2_with fail
    refine (alive_any _).mono ?_
    rintro e w0 ⟨rfl, hb⟩
    have TB_ := Lib.hid (HB.out.trans (hb.mono HB.out.size))
    clear HB 
    have HB := Lib.hid TB_.out
    clear TB_ 
    clear hb
    go_wp2_with fail
    refine (newFence_ok 1 _ (by decide +kernel)).mono ?_
    obtain ⟨p0, hp⟩ : ∃ p, w0.heap.size = p := ⟨_, rfl⟩
    have hpw : w.heap.size ≤ p0 := by have := HB.out.size; omega
    rw [hp]
    rintro e w1 ⟨rfl, hf, hb⟩
    have HF0 := Lib.hid (show Blk w1 p0 64 #[.int .i64 (Or.new 1).u, .int .i64 (Or.new 1).o.u, .int .i64 (Or.new 1).o.e, .int .i64 (Or.new 1).o.k, .int .i64 (Or.new 1).o.i, .int .i64 (Or.new 1).o.n, .bool (Or.new 1).a] from hf)
    have TB_ := Lib.hid (HB.out.trans (hb.mono hpw))
    clear hf hb hp HB
    go_wp2_with fail
    go_loopw [7, 9, 30] (fun pf last i wr => ∃ (k : Nat) (f : Or.F) (p : Nat), k ≤ es.length ∧ i = .int .i64 k ∧ last = .int .i64 f.o.e ∧ pf = .pointer (some ⟨p, 0, none⟩) ∧ w.heap.size ≤ p ∧ Hid (Blk wr p 64 #[.int .i64 f.u, .int .i64 f.o.u, .int .i64 f.o.e, .int .i64 f.o.k, .int .i64 f.o.i, .int .i64 f.o.n, .bool f.a] ∧ f.u = 1 ∧ Or.Inv f ∧ Or.O64 f.o ∧ Or.Mine f ∧ Below w.heap.size w wr)) (fun _ _ i _ => es.length - (intOf i).toNat)
    case atStart => exact ⟨0, Or.new 1, p0, Nat.zero_le _, rfl, rfl, rfl, hpw, ⟨HF0.out, rfl, Or.Inv.new 1, Or.zero64, (fun h => by cases h), TB_.out⟩⟩
    case round =>
      obtain ⟨k, f, p, hk, rfl, rfl, rfl, hpw', hrel⟩ := hrel
      clear HF0 TB_
      have HF := Lib.hid hrel.out.1
      have HFU := Lib.hid hrel.out.2.1
      have HI := Lib.hid hrel.out.2.2.1
      have HO64 := Lib.hid hrel.out.2.2.2.1
      have HMI := Lib.hid hrel.out.2.2.2.2.1
      have HB := Lib.hid hrel.out.2.2.2.2.2
      clear hrel
      by_cases hlt : k < es.length
      · obtain ⟨n, hn⟩ : ∃ n, es[k] = n := ⟨_, rfl⟩
        have hnb := HEB.out es[k] (List.getElem_mem hlt)
        obtain ⟨ad, hA, hc⟩ := (HE.out.low HB.out) k (.int .u16 es[k]) (by simp [hlt])
        have HKD := Lib.hid (HK.out.low HB.out)
        have HRD := Lib.hid (HRS.out.low HB.out)
        rw [hn] at hnb hc
        obtain ⟨hn0, hn1⟩ := hnb
        subst hA
        clear hn
        by_cases hkl : k < ks.length
        · obtain ⟨kn, hkn⟩ : ∃ kn, ks[k] = kn := ⟨_, rfl⟩
          have HKN := Lib.hid (show (ks.map (Value.int .u8))[k]? = some (.int .u8 kn) by rw [List.getElem?_map, List.getElem?_eq_getElem hkl, hkn]; rfl)
          have hknb := HKB.out ks[k] (List.getElem_mem hkl)
          rw [hkn] at hknb
          obtain ⟨hkn0, hkn1⟩ := hknb
          clear hkn
          by_cases hk3 : kn % 3 = 1
          · have hkt : (kn % 3 == 1) = true := by simpa using hk3
            clear hk3
            by_cases hrl : k < rs.length
            · cases hrb : rs[k] with
              | true =>
                have HRN := Lib.hid (show (rs.map Value.bool)[k]? = some (.bool true) by rw [List.getElem?_map, List.getElem?_eq_getElem hrl, hrb]; rfl)
                clear hrb
                · skip
                  have ltF_ := HF.out.lt
                  go_wp2_with fail
                  refine (going_any (1 + n) _).mono ?_
                  rintro e r0 ⟨rfl, hb⟩
                  have TF_ := Lib.hid (HF.out.low hb)
                  have TB_ := Lib.hid (HB.out.trans (hb.mono HB.out.size))
                  clear ltF_
                  clear HB HF
                  have HF := Lib.hid TF_.out
                  have HB := Lib.hid TB_.out
                  clear TB_ TF_
                  clear hb
                  have ltF_ := HF.out.lt
                  obtain ⟨ad2, hA2, hc2⟩ := (HK.out.low HB.out) k (.int .u8 kn) HKN.out
                  have hb2 := World.block_lt_of_cell? r0 _ hc2
                  subst hA2
                  go_wp2_with fail
                  obtain ⟨bx, hbk_⟩ : ∃ b, r0.heap.size = b := ⟨_, rfl⟩
                  have NX_ := Lib.hid (Blk.new' r0 29 #[.int .i64 1, .int .i64 (1 + n), .int .i64 2, .int .i64 0, .int .i64 0] bx hbk_)
                  have oFX_ : p < bx := by have := HF.out.lt; omega
                  have TF_ := Lib.hid ((HF.out.low ((Below.refl _ _).alloc (Nat.le_refl _) (.cells #[.int .i64 1, .int .i64 (1 + n), .int .i64 2, .int .i64 0, .int .i64 0] 29))))
                  have TB_ := Lib.hid (HB.out.alloc HB.out.size (.cells #[.int .i64 1, .int .i64 (1 + n), .int .i64 2, .int .i64 0, .int .i64 0] 29))
                  clear ltF_
                  clear HB HF
                  have HF := Lib.hid TF_.out
                  have HB := Lib.hid TB_.out
                  clear TB_ TF_
                  try rw [hbk_]
                  obtain ⟨r1, hw_⟩ : ∃ w', r0.alloc (.cells #[.int .i64 1, .int .i64 (1 + n), .int .i64 2, .int .i64 0, .int .i64 0] 29) = w' := ⟨_, rfl⟩
                  rw [hw_] at NX_ HB HF ⊢
                  have HX := Lib.hid NX_.out
                  clear hw_ hbk_ NX_
                  have ltF_ := HF.out.lt
                  have x0_ : r1.cell? ⟨bx, 0, none⟩ = some (.int .i64 1) := HX.out.cell 0
                  have x1_ : r1.cell? ⟨bx, 1, none⟩ = some (.int .i64 (1 + n)) := HX.out.cell 1
                  have x2_ : r1.cell? ⟨bx, 2, none⟩ = some (.int .i64 2) := HX.out.cell 2
                  have x3_ : r1.cell? ⟨bx, 3, none⟩ = some (.int .i64 0) := HX.out.cell 3
                  have x4_ : r1.cell? ⟨bx, 4, none⟩ = some (.int .i64 0) := HX.out.cell 4
                  have ltX_ := HX.out.lt
                  clear hc2 hb2
                  obtain ⟨hv, ho64⟩ := Or.stand_ok (e := 1 + n) (by omega)
                  obtain ⟨a0, a1, a2, a3, a4⟩ := Or.acc_newest HI.out (o := (Or.stand (1 + n))) hv HFU.out.symm
                  have HIG := Lib.hid (HI.out.acc ((Or.stand (1 + n))))
                  have HG64 := Lib.hid (Or.acc64 HO64.out ho64)
                  have HGU := Lib.hid ((Or.acc_u f ((Or.stand (1 + n)))).trans HFU.out)
                  have HGM := Lib.hid (HMI.out.acc (o := (Or.stand (1 + n))) HFU.out.symm)
                  obtain ⟨o, ho⟩ : ∃ o, (Or.stand (1 + n)) = o := ⟨_, rfl⟩
                  have HO1 := Lib.hid (show (1 : Int) = o.u ∧ 1 + n = o.e by rw [← ho]; exact ⟨rfl, rfl⟩)
                  obtain ⟨g, hg⟩ : ∃ g, Or.acc f ((Or.stand (1 + n))) = g := ⟨_, rfl⟩
                  obtain ⟨ra, hra⟩ : ∃ b, Or.accB f ((Or.stand (1 + n))) = b := ⟨_, rfl⟩
                  have HAE := Lib.hid a0
                  have HAB := Lib.hid hra
                  have HGG := Lib.hid hg
                  have hra2 : decide (f.o.e < o.e) = ra := by rw [← ho, ← a1]; exact hra
                  have hmx : max f.o.e o.e = g.o.e := by rw [← hg, a2, ho]
                  have hga : g.a = true := by rw [← hg]; exact a3
                  have HTK := Lib.hid (show ra = true → g.o = o by intro h; rw [← hg, ← ho]; exact a4 (hra.trans h))
                  rw [hg] at HIG HG64 HGU HGM
                  have HGO := Lib.hid ((HGM.out hga).trans HGU.out)
                  have HGA := Lib.hid hga
                  have HOO := Lib.hid ho
                  have HMX := Lib.hid hmx
                  have HRA2 := Lib.hid hra2
                  clear a0 a1 a2 a3 a4 hra hg hra2 hmx hga hv ho64 ho
                  go_wp2_with fail
                  refine (accept_any p f (Or.stand (1 + n)) _ HF.out).mono ?_
                  rw [HAE.out, HAB.out, HGG.out]
                  rintro e r2 ⟨rfl, hf, hb⟩
                  have TX_ := Lib.hid (HX.out.chg hb (by omega))
                  have TB_ := Lib.hid (HB.out.trans (hb.below (B := w.heap.size) (fun k e => by omega) HB.out.size))
                  clear ltF_ x0_ x1_ x2_ x3_ x4_ ltX_
                  clear HB HX
                  have HX := Lib.hid TX_.out
                  have HB := Lib.hid TB_.out
                  clear TB_ TX_
                  have HF0 := Lib.hid HF.out
                  clear HF
                  have HF := Lib.hid (show Blk r2 p 64 #[.int .i64 g.u, .int .i64 g.o.u, .int .i64 g.o.e, .int .i64 g.o.k, .int .i64 g.o.i, .int .i64 g.o.n, .bool g.a] from hf)
                  clear hf HF0
                  clear hb
                  have ltF_ := HF.out.lt
                  have x0_ : r2.cell? ⟨bx, 0, none⟩ = some (.int .i64 1) := HX.out.cell 0
                  have x1_ : r2.cell? ⟨bx, 1, none⟩ = some (.int .i64 (1 + n)) := HX.out.cell 1
                  have x2_ : r2.cell? ⟨bx, 2, none⟩ = some (.int .i64 2) := HX.out.cell 2
                  have x3_ : r2.cell? ⟨bx, 3, none⟩ = some (.int .i64 0) := HX.out.cell 3
                  have x4_ : r2.cell? ⟨bx, 4, none⟩ = some (.int .i64 0) := HX.out.cell 4
                  have ltX_ := HX.out.lt
                  have hRA : decide (f.o.e < 1 + n) = ra := by have := HRA2.out; rw [← HO1.out.2] at this; exact this
                  have HMX2 := Lib.hid (show max f.o.e (1 + n) = g.o.e by have := HMX.out; rw [← HO1.out.2] at this; exact this)
                  cases ra with
                  | false =>
                    have hfe : ¬ f.o.e < 1 + n := of_decide_eq_false hRA
                    clear hRA
                    obtain ⟨ad3, hA3, hc3⟩ := (HRS.out.low HB.out) k (.bool true) HRN.out
                    subst hA3
                    obtain ⟨q, hq⟩ : ∃ q, Or.put g.o = q := ⟨_, rfl⟩
                    have HMQ := Lib.hid (show Or.marsh g = q by rw [Or.marsh_put HIG.out, hq])
                    obtain ⟨hr1, hr2⟩ := Or.rest_put (u := 1) (HIG.out.2 HGA.out) HG64.out HGO.out
                    rw [hq] at hr1 hr2
                    have HR1 := Lib.hid hr1
                    have HR2 := Lib.hid hr2
                    have HQB := Lib.hid (show Wr.Bts q from hq ▸ Or.put_bts g.o)
                    have hqp : 0 < q.length := hq ▸ Or.put_pos (HIG.out.2 HGA.out)
                    have HQL := Lib.hid (show q.length ≤ 50 from hq ▸ Or.put_len HG64.out)
                    clear hq hr1 hr2
                    go_wp2_with fail
                    refine (marshal_any p g _ HF.out HG64.out).mono ?_
                    rw [HMQ.out]
                    rintro e r3 ⟨Aq, cq, rfl, hq, hb⟩
                    have TF_ := Lib.hid (HF.out.low hb)
                    have TX_ := Lib.hid (HX.out.low hb)
                    have TB_ := Lib.hid (HB.out.trans (hb.mono HB.out.size))
                    clear ltF_ x0_ x1_ x2_ x3_ x4_ ltX_
                    clear HB HF HX
                    have HF := Lib.hid TF_.out
                    have HX := Lib.hid TX_.out
                    have HB := Lib.hid TB_.out
                    clear TB_ TF_ TX_
                    have HQO := Lib.hid (Rd.of_own hq)
                    clear hq
                    clear hb
                    have ltF_ := HF.out.lt
                    have x0_ : r3.cell? ⟨bx, 0, none⟩ = some (.int .i64 1) := HX.out.cell 0
                    have x1_ : r3.cell? ⟨bx, 1, none⟩ = some (.int .i64 (1 + n)) := HX.out.cell 1
                    have x2_ : r3.cell? ⟨bx, 2, none⟩ = some (.int .i64 2) := HX.out.cell 2
                    have x3_ : r3.cell? ⟨bx, 3, none⟩ = some (.int .i64 0) := HX.out.cell 3
                    have x4_ : r3.cell? ⟨bx, 4, none⟩ = some (.int .i64 0) := HX.out.cell 4
                    have ltX_ := HX.out.lt
                    go_wp2_with fail
                    refine (restore_any 1 Aq q cq _ (by decide +kernel) hqp HQO.out HQB.out (by have := HQL.out; omega)).mono ?_
                    obtain ⟨p2, hp2⟩ : ∃ p2, r3.heap.size = p2 := ⟨_, rfl⟩
                    have hpw2 : w.heap.size ≤ p2 := by have := HB.out.size; omega
                    rw [hp2]
                    rintro e r4 ⟨_, hgood, hb⟩
                    obtain ⟨rfl, hf⟩ := hgood HR1.out
                    have NF_ := Lib.hid (show Blk r4 p2 64 #[.int .i64 g.u, .int .i64 g.o.u, .int .i64 g.o.e, .int .i64 g.o.k, .int .i64 g.o.i, .int .i64 g.o.n, .bool g.a] by
                      have hf' : Blk r4 p2 64 #[.int .i64 1, .int .i64 (Or.decO q).u, .int .i64 (Or.decO q).e, .int .i64 (Or.decO q).k, .int .i64 (Or.decO q).i, .int .i64 (Or.decO q).n, .bool true] := hf
                      rw [HR2.out] at hf'
                      rw [HGU.out, HGA.out]; exact hf')
                    have hb2 : Below r3.heap.size r3 r4 := by rw [hp2]; exact hb
                    clear hb hf hgood
                    have hb := hb2
                    clear hb2
                    have TF_ := Lib.hid (HF.out.low hb)
                    have TX_ := Lib.hid (HX.out.low hb)
                    have TB_ := Lib.hid (HB.out.trans (hb.mono HB.out.size))
                    clear ltF_ x0_ x1_ x2_ x3_ x4_ ltX_
                    clear HB HF HX
                    have HF := Lib.hid TF_.out
                    have HX := Lib.hid TX_.out
                    have HB := Lib.hid TB_.out
                    clear TB_ TF_ TX_
                    clear hb HF hp2 HQO
                    have HF := Lib.hid NF_.out
                    clear NF_
                    have ltF_ := HF.out.lt
                    have x0_ : r4.cell? ⟨bx, 0, none⟩ = some (.int .i64 1) := HX.out.cell 0
                    have x1_ : r4.cell? ⟨bx, 1, none⟩ = some (.int .i64 (1 + n)) := HX.out.cell 1
                    have x2_ : r4.cell? ⟨bx, 2, none⟩ = some (.int .i64 2) := HX.out.cell 2
                    have x3_ : r4.cell? ⟨bx, 3, none⟩ = some (.int .i64 0) := HX.out.cell 3
                    have x4_ : r4.cell? ⟨bx, 4, none⟩ = some (.int .i64 0) := HX.out.cell 4
                    have ltX_ := HX.out.lt
                    go_wp2_with fail
                    refine (latest_any p2 g _ HF.out).mono ?_
                    rintro e r5 ⟨rfl, hb⟩
                    have TF_ := Lib.hid (HF.out.low hb)
                    have TX_ := Lib.hid (HX.out.low hb)
                    have TB_ := Lib.hid (HB.out.trans (hb.mono HB.out.size))
                    clear ltF_ x0_ x1_ x2_ x3_ x4_ ltX_
                    clear HB HF HX
                    have HF := Lib.hid TF_.out
                    have HX := Lib.hid TX_.out
                    have HB := Lib.hid TB_.out
                    clear TB_ TF_ TX_
                    clear hb
                    have ltF_ := HF.out.lt
                    have x0_ : r5.cell? ⟨bx, 0, none⟩ = some (.int .i64 1) := HX.out.cell 0
                    have x1_ : r5.cell? ⟨bx, 1, none⟩ = some (.int .i64 (1 + n)) := HX.out.cell 1
                    have x2_ : r5.cell? ⟨bx, 2, none⟩ = some (.int .i64 2) := HX.out.cell 2
                    have x3_ : r5.cell? ⟨bx, 3, none⟩ = some (.int .i64 0) := HX.out.cell 3
                    have x4_ : r5.cell? ⟨bx, 4, none⟩ = some (.int .i64 0) := HX.out.cell 4
                    have ltX_ := HX.out.lt
                    have y1 : g.o.e = f.o.e := by rw [← HMX2.out]; omega
                    have hga := HGA.out
                    go_wp2
                    go_roundw
                    case rel => exact ⟨k + 1, g, p2, by omega, by go_num, congrArg _ y1.symm, rfl, by first | exact hpw2 | omega, ⟨HF.out.alloc _, HGU.out, HIG.out, HG64.out, HGM.out, HB.out.alloc HB.out.size _⟩⟩
                    case measure => simp [intOf]; omega
                  | true =>
                    have hfe : f.o.e < 1 + n := of_decide_eq_true hRA
                    clear hRA
                    obtain ⟨ad3, hA3, hc3⟩ := (HRS.out.low HB.out) k (.bool true) HRN.out
                    subst hA3
                    obtain ⟨q, hq⟩ : ∃ q, Or.put g.o = q := ⟨_, rfl⟩
                    have HMQ := Lib.hid (show Or.marsh g = q by rw [Or.marsh_put HIG.out, hq])
                    obtain ⟨hr1, hr2⟩ := Or.rest_put (u := 1) (HIG.out.2 HGA.out) HG64.out HGO.out
                    rw [hq] at hr1 hr2
                    have HR1 := Lib.hid hr1
                    have HR2 := Lib.hid hr2
                    have HQB := Lib.hid (show Wr.Bts q from hq ▸ Or.put_bts g.o)
                    have hqp : 0 < q.length := hq ▸ Or.put_pos (HIG.out.2 HGA.out)
                    have HQL := Lib.hid (show q.length ≤ 50 from hq ▸ Or.put_len HG64.out)
                    clear hq hr1 hr2
                    go_wp2_with fail
                    refine (marshal_any p g _ HF.out HG64.out).mono ?_
                    rw [HMQ.out]
                    rintro e r3 ⟨Aq, cq, rfl, hq, hb⟩
                    have TF_ := Lib.hid (HF.out.low hb)
                    have TX_ := Lib.hid (HX.out.low hb)
                    have TB_ := Lib.hid (HB.out.trans (hb.mono HB.out.size))
                    clear ltF_ x0_ x1_ x2_ x3_ x4_ ltX_
                    clear HB HF HX
                    have HF := Lib.hid TF_.out
                    have HX := Lib.hid TX_.out
                    have HB := Lib.hid TB_.out
                    clear TB_ TF_ TX_
                    have HQO := Lib.hid (Rd.of_own hq)
                    clear hq
                    clear hb
                    have ltF_ := HF.out.lt
                    have x0_ : r3.cell? ⟨bx, 0, none⟩ = some (.int .i64 1) := HX.out.cell 0
                    have x1_ : r3.cell? ⟨bx, 1, none⟩ = some (.int .i64 (1 + n)) := HX.out.cell 1
                    have x2_ : r3.cell? ⟨bx, 2, none⟩ = some (.int .i64 2) := HX.out.cell 2
                    have x3_ : r3.cell? ⟨bx, 3, none⟩ = some (.int .i64 0) := HX.out.cell 3
                    have x4_ : r3.cell? ⟨bx, 4, none⟩ = some (.int .i64 0) := HX.out.cell 4
                    have ltX_ := HX.out.lt
                    go_wp2_with fail
                    refine (restore_any 1 Aq q cq _ (by decide +kernel) hqp HQO.out HQB.out (by have := HQL.out; omega)).mono ?_
                    obtain ⟨p2, hp2⟩ : ∃ p2, r3.heap.size = p2 := ⟨_, rfl⟩
                    have hpw2 : w.heap.size ≤ p2 := by have := HB.out.size; omega
                    rw [hp2]
                    rintro e r4 ⟨_, hgood, hb⟩
                    obtain ⟨rfl, hf⟩ := hgood HR1.out
                    have NF_ := Lib.hid (show Blk r4 p2 64 #[.int .i64 g.u, .int .i64 g.o.u, .int .i64 g.o.e, .int .i64 g.o.k, .int .i64 g.o.i, .int .i64 g.o.n, .bool g.a] by
                      have hf' : Blk r4 p2 64 #[.int .i64 1, .int .i64 (Or.decO q).u, .int .i64 (Or.decO q).e, .int .i64 (Or.decO q).k, .int .i64 (Or.decO q).i, .int .i64 (Or.decO q).n, .bool true] := hf
                      rw [HR2.out] at hf'
                      rw [HGU.out, HGA.out]; exact hf')
                    have hb2 : Below r3.heap.size r3 r4 := by rw [hp2]; exact hb
                    clear hb hf hgood
                    have hb := hb2
                    clear hb2
                    have TF_ := Lib.hid (HF.out.low hb)
                    have TX_ := Lib.hid (HX.out.low hb)
                    have TB_ := Lib.hid (HB.out.trans (hb.mono HB.out.size))
                    clear ltF_ x0_ x1_ x2_ x3_ x4_ ltX_
                    clear HB HF HX
                    have HF := Lib.hid TF_.out
                    have HX := Lib.hid TX_.out
                    have HB := Lib.hid TB_.out
                    clear TB_ TF_ TX_
                    clear hb HF hp2 HQO
                    have HF := Lib.hid NF_.out
                    clear NF_
                    have ltF_ := HF.out.lt
                    have x0_ : r4.cell? ⟨bx, 0, none⟩ = some (.int .i64 1) := HX.out.cell 0
                    have x1_ : r4.cell? ⟨bx, 1, none⟩ = some (.int .i64 (1 + n)) := HX.out.cell 1
                    have x2_ : r4.cell? ⟨bx, 2, none⟩ = some (.int .i64 2) := HX.out.cell 2
                    have x3_ : r4.cell? ⟨bx, 3, none⟩ = some (.int .i64 0) := HX.out.cell 3
                    have x4_ : r4.cell? ⟨bx, 4, none⟩ = some (.int .i64 0) := HX.out.cell 4
                    have ltX_ := HX.out.lt
                    go_wp2_with fail
                    refine (latest_any p2 g _ HF.out).mono ?_
                    rintro e r5 ⟨rfl, hb⟩
                    have TF_ := Lib.hid (HF.out.low hb)
                    have TX_ := Lib.hid (HX.out.low hb)
                    have TB_ := Lib.hid (HB.out.trans (hb.mono HB.out.size))
                    clear ltF_ x0_ x1_ x2_ x3_ x4_ ltX_
                    clear HB HF HX
                    have HF := Lib.hid TF_.out
                    have HX := Lib.hid TX_.out
                    have HB := Lib.hid TB_.out
                    clear TB_ TF_ TX_
                    clear hb
                    have ltF_ := HF.out.lt
                    have x0_ : r5.cell? ⟨bx, 0, none⟩ = some (.int .i64 1) := HX.out.cell 0
                    have x1_ : r5.cell? ⟨bx, 1, none⟩ = some (.int .i64 (1 + n)) := HX.out.cell 1
                    have x2_ : r5.cell? ⟨bx, 2, none⟩ = some (.int .i64 2) := HX.out.cell 2
                    have x3_ : r5.cell? ⟨bx, 3, none⟩ = some (.int .i64 0) := HX.out.cell 3
                    have x4_ : r5.cell? ⟨bx, 4, none⟩ = some (.int .i64 0) := HX.out.cell 4
                    have ltX_ := HX.out.lt
                    have hgo := HTK.out (by trivial)
                    rw [← HOO.out] at hgo
                    have y0 : g.o.u = 1 := by rw [hgo]; rfl
                    have y1 : g.o.e = 1 + n := by rw [hgo]; rfl
                    have y2 : g.o.k = 2 := by rw [hgo]; rfl
                    have y3 : g.o.i = 0 := by rw [hgo]; rfl
                    have y4 : g.o.n = 0 := by rw [hgo]; rfl
                    clear hgo
                    have hga := HGA.out
                    go_wp2
                    go_roundw
                    case rel => exact ⟨k + 1, g, p2, by omega, by go_num, congrArg _ y1.symm, rfl, by first | exact hpw2 | omega, ⟨HF.out.alloc _, HGU.out, HIG.out, HG64.out, HGM.out, HB.out.alloc HB.out.size _⟩⟩
                    case measure => simp [intOf]; omega
              | false =>
                have HRN := Lib.hid (show (rs.map Value.bool)[k]? = some (.bool false) by rw [List.getElem?_map, List.getElem?_eq_getElem hrl, hrb]; rfl)
                clear hrb
                · skip
                  have ltF_ := HF.out.lt
                  go_wp2_with fail
                  refine (going_any (1 + n) _).mono ?_
                  rintro e r0 ⟨rfl, hb⟩
                  have TF_ := Lib.hid (HF.out.low hb)
                  have TB_ := Lib.hid (HB.out.trans (hb.mono HB.out.size))
                  clear ltF_
                  clear HB HF
                  have HF := Lib.hid TF_.out
                  have HB := Lib.hid TB_.out
                  clear TB_ TF_
                  clear hb
                  have ltF_ := HF.out.lt
                  obtain ⟨ad2, hA2, hc2⟩ := (HK.out.low HB.out) k (.int .u8 kn) HKN.out
                  have hb2 := World.block_lt_of_cell? r0 _ hc2
                  subst hA2
                  go_wp2_with fail
                  obtain ⟨bx, hbk_⟩ : ∃ b, r0.heap.size = b := ⟨_, rfl⟩
                  have NX_ := Lib.hid (Blk.new' r0 29 #[.int .i64 1, .int .i64 (1 + n), .int .i64 2, .int .i64 0, .int .i64 0] bx hbk_)
                  have oFX_ : p < bx := by have := HF.out.lt; omega
                  have TF_ := Lib.hid ((HF.out.low ((Below.refl _ _).alloc (Nat.le_refl _) (.cells #[.int .i64 1, .int .i64 (1 + n), .int .i64 2, .int .i64 0, .int .i64 0] 29))))
                  have TB_ := Lib.hid (HB.out.alloc HB.out.size (.cells #[.int .i64 1, .int .i64 (1 + n), .int .i64 2, .int .i64 0, .int .i64 0] 29))
                  clear ltF_
                  clear HB HF
                  have HF := Lib.hid TF_.out
                  have HB := Lib.hid TB_.out
                  clear TB_ TF_
                  try rw [hbk_]
                  obtain ⟨r1, hw_⟩ : ∃ w', r0.alloc (.cells #[.int .i64 1, .int .i64 (1 + n), .int .i64 2, .int .i64 0, .int .i64 0] 29) = w' := ⟨_, rfl⟩
                  rw [hw_] at NX_ HB HF ⊢
                  have HX := Lib.hid NX_.out
                  clear hw_ hbk_ NX_
                  have ltF_ := HF.out.lt
                  have x0_ : r1.cell? ⟨bx, 0, none⟩ = some (.int .i64 1) := HX.out.cell 0
                  have x1_ : r1.cell? ⟨bx, 1, none⟩ = some (.int .i64 (1 + n)) := HX.out.cell 1
                  have x2_ : r1.cell? ⟨bx, 2, none⟩ = some (.int .i64 2) := HX.out.cell 2
                  have x3_ : r1.cell? ⟨bx, 3, none⟩ = some (.int .i64 0) := HX.out.cell 3
                  have x4_ : r1.cell? ⟨bx, 4, none⟩ = some (.int .i64 0) := HX.out.cell 4
                  have ltX_ := HX.out.lt
                  clear hc2 hb2
                  obtain ⟨hv, ho64⟩ := Or.stand_ok (e := 1 + n) (by omega)
                  obtain ⟨a0, a1, a2, a3, a4⟩ := Or.acc_newest HI.out (o := (Or.stand (1 + n))) hv HFU.out.symm
                  have HIG := Lib.hid (HI.out.acc ((Or.stand (1 + n))))
                  have HG64 := Lib.hid (Or.acc64 HO64.out ho64)
                  have HGU := Lib.hid ((Or.acc_u f ((Or.stand (1 + n)))).trans HFU.out)
                  have HGM := Lib.hid (HMI.out.acc (o := (Or.stand (1 + n))) HFU.out.symm)
                  obtain ⟨o, ho⟩ : ∃ o, (Or.stand (1 + n)) = o := ⟨_, rfl⟩
                  have HO1 := Lib.hid (show (1 : Int) = o.u ∧ 1 + n = o.e by rw [← ho]; exact ⟨rfl, rfl⟩)
                  obtain ⟨g, hg⟩ : ∃ g, Or.acc f ((Or.stand (1 + n))) = g := ⟨_, rfl⟩
                  obtain ⟨ra, hra⟩ : ∃ b, Or.accB f ((Or.stand (1 + n))) = b := ⟨_, rfl⟩
                  have HAE := Lib.hid a0
                  have HAB := Lib.hid hra
                  have HGG := Lib.hid hg
                  have hra2 : decide (f.o.e < o.e) = ra := by rw [← ho, ← a1]; exact hra
                  have hmx : max f.o.e o.e = g.o.e := by rw [← hg, a2, ho]
                  have hga : g.a = true := by rw [← hg]; exact a3
                  have HTK := Lib.hid (show ra = true → g.o = o by intro h; rw [← hg, ← ho]; exact a4 (hra.trans h))
                  rw [hg] at HIG HG64 HGU HGM
                  have HGO := Lib.hid ((HGM.out hga).trans HGU.out)
                  have HGA := Lib.hid hga
                  have HOO := Lib.hid ho
                  have HMX := Lib.hid hmx
                  have HRA2 := Lib.hid hra2
                  clear a0 a1 a2 a3 a4 hra hg hra2 hmx hga hv ho64 ho
                  go_wp2_with fail
                  refine (accept_any p f (Or.stand (1 + n)) _ HF.out).mono ?_
                  rw [HAE.out, HAB.out, HGG.out]
                  rintro e r2 ⟨rfl, hf, hb⟩
                  have TX_ := Lib.hid (HX.out.chg hb (by omega))
                  have TB_ := Lib.hid (HB.out.trans (hb.below (B := w.heap.size) (fun k e => by omega) HB.out.size))
                  clear ltF_ x0_ x1_ x2_ x3_ x4_ ltX_
                  clear HB HX
                  have HX := Lib.hid TX_.out
                  have HB := Lib.hid TB_.out
                  clear TB_ TX_
                  have HF0 := Lib.hid HF.out
                  clear HF
                  have HF := Lib.hid (show Blk r2 p 64 #[.int .i64 g.u, .int .i64 g.o.u, .int .i64 g.o.e, .int .i64 g.o.k, .int .i64 g.o.i, .int .i64 g.o.n, .bool g.a] from hf)
                  clear hf HF0
                  clear hb
                  have ltF_ := HF.out.lt
                  have x0_ : r2.cell? ⟨bx, 0, none⟩ = some (.int .i64 1) := HX.out.cell 0
                  have x1_ : r2.cell? ⟨bx, 1, none⟩ = some (.int .i64 (1 + n)) := HX.out.cell 1
                  have x2_ : r2.cell? ⟨bx, 2, none⟩ = some (.int .i64 2) := HX.out.cell 2
                  have x3_ : r2.cell? ⟨bx, 3, none⟩ = some (.int .i64 0) := HX.out.cell 3
                  have x4_ : r2.cell? ⟨bx, 4, none⟩ = some (.int .i64 0) := HX.out.cell 4
                  have ltX_ := HX.out.lt
                  have hRA : decide (f.o.e < 1 + n) = ra := by have := HRA2.out; rw [← HO1.out.2] at this; exact this
                  have HMX2 := Lib.hid (show max f.o.e (1 + n) = g.o.e by have := HMX.out; rw [← HO1.out.2] at this; exact this)
                  cases ra with
                  | false =>
                    have hfe : ¬ f.o.e < 1 + n := of_decide_eq_false hRA
                    clear hRA
                    obtain ⟨ad3, hA3, hc3⟩ := (HRS.out.low HB.out) k (.bool false) HRN.out
                    subst hA3
                    go_wp2_with fail
                    refine (latest_any p g _ HF.out).mono ?_
                    rintro e r5 ⟨rfl, hb⟩
                    have TF_ := Lib.hid (HF.out.low hb)
                    have TX_ := Lib.hid (HX.out.low hb)
                    have TB_ := Lib.hid (HB.out.trans (hb.mono HB.out.size))
                    clear ltF_ x0_ x1_ x2_ x3_ x4_ ltX_
                    clear HB HF HX
                    have HF := Lib.hid TF_.out
                    have HX := Lib.hid TX_.out
                    have HB := Lib.hid TB_.out
                    clear TB_ TF_ TX_
                    clear hb
                    have ltF_ := HF.out.lt
                    have x0_ : r5.cell? ⟨bx, 0, none⟩ = some (.int .i64 1) := HX.out.cell 0
                    have x1_ : r5.cell? ⟨bx, 1, none⟩ = some (.int .i64 (1 + n)) := HX.out.cell 1
                    have x2_ : r5.cell? ⟨bx, 2, none⟩ = some (.int .i64 2) := HX.out.cell 2
                    have x3_ : r5.cell? ⟨bx, 3, none⟩ = some (.int .i64 0) := HX.out.cell 3
                    have x4_ : r5.cell? ⟨bx, 4, none⟩ = some (.int .i64 0) := HX.out.cell 4
                    have ltX_ := HX.out.lt
                    have y1 : g.o.e = f.o.e := by rw [← HMX2.out]; omega
                    have hga := HGA.out
                    go_wp2
                    go_roundw
                    case rel => exact ⟨k + 1, g, p, by omega, by go_num, congrArg _ y1.symm, rfl, by first | exact hpw' | omega, ⟨HF.out.alloc _, HGU.out, HIG.out, HG64.out, HGM.out, HB.out.alloc HB.out.size _⟩⟩
                    case measure => simp [intOf]; omega
                  | true =>
                    have hfe : f.o.e < 1 + n := of_decide_eq_true hRA
                    clear hRA
                    obtain ⟨ad3, hA3, hc3⟩ := (HRS.out.low HB.out) k (.bool false) HRN.out
                    subst hA3
                    go_wp2_with fail
                    refine (latest_any p g _ HF.out).mono ?_
                    rintro e r5 ⟨rfl, hb⟩
                    have TF_ := Lib.hid (HF.out.low hb)
                    have TX_ := Lib.hid (HX.out.low hb)
                    have TB_ := Lib.hid (HB.out.trans (hb.mono HB.out.size))
                    clear ltF_ x0_ x1_ x2_ x3_ x4_ ltX_
                    clear HB HF HX
                    have HF := Lib.hid TF_.out
                    have HX := Lib.hid TX_.out
                    have HB := Lib.hid TB_.out
                    clear TB_ TF_ TX_
                    clear hb
                    have ltF_ := HF.out.lt
                    have x0_ : r5.cell? ⟨bx, 0, none⟩ = some (.int .i64 1) := HX.out.cell 0
                    have x1_ : r5.cell? ⟨bx, 1, none⟩ = some (.int .i64 (1 + n)) := HX.out.cell 1
                    have x2_ : r5.cell? ⟨bx, 2, none⟩ = some (.int .i64 2) := HX.out.cell 2
                    have x3_ : r5.cell? ⟨bx, 3, none⟩ = some (.int .i64 0) := HX.out.cell 3
                    have x4_ : r5.cell? ⟨bx, 4, none⟩ = some (.int .i64 0) := HX.out.cell 4
                    have ltX_ := HX.out.lt
                    have hgo := HTK.out (by trivial)
                    rw [← HOO.out] at hgo
                    have y0 : g.o.u = 1 := by rw [hgo]; rfl
                    have y1 : g.o.e = 1 + n := by rw [hgo]; rfl
                    have y2 : g.o.k = 2 := by rw [hgo]; rfl
                    have y3 : g.o.i = 0 := by rw [hgo]; rfl
                    have y4 : g.o.n = 0 := by rw [hgo]; rfl
                    clear hgo
                    have hga := HGA.out
                    go_wp2
                    go_roundw
                    case rel => exact ⟨k + 1, g, p, by omega, by go_num, congrArg _ y1.symm, rfl, by first | exact hpw' | omega, ⟨HF.out.alloc _, HGU.out, HIG.out, HG64.out, HGM.out, HB.out.alloc HB.out.size _⟩⟩
                    case measure => simp [intOf]; omega
            · skip
              · skip
                have ltF_ := HF.out.lt
                go_wp2_with fail
                refine (going_any (1 + n) _).mono ?_
                rintro e r0 ⟨rfl, hb⟩
                have TF_ := Lib.hid (HF.out.low hb)
                have TB_ := Lib.hid (HB.out.trans (hb.mono HB.out.size))
                clear ltF_
                clear HB HF
                have HF := Lib.hid TF_.out
                have HB := Lib.hid TB_.out
                clear TB_ TF_
                clear hb
                have ltF_ := HF.out.lt
                obtain ⟨ad2, hA2, hc2⟩ := (HK.out.low HB.out) k (.int .u8 kn) HKN.out
                have hb2 := World.block_lt_of_cell? r0 _ hc2
                subst hA2
                go_wp2_with fail
                obtain ⟨bx, hbk_⟩ : ∃ b, r0.heap.size = b := ⟨_, rfl⟩
                have NX_ := Lib.hid (Blk.new' r0 29 #[.int .i64 1, .int .i64 (1 + n), .int .i64 2, .int .i64 0, .int .i64 0] bx hbk_)
                have oFX_ : p < bx := by have := HF.out.lt; omega
                have TF_ := Lib.hid ((HF.out.low ((Below.refl _ _).alloc (Nat.le_refl _) (.cells #[.int .i64 1, .int .i64 (1 + n), .int .i64 2, .int .i64 0, .int .i64 0] 29))))
                have TB_ := Lib.hid (HB.out.alloc HB.out.size (.cells #[.int .i64 1, .int .i64 (1 + n), .int .i64 2, .int .i64 0, .int .i64 0] 29))
                clear ltF_
                clear HB HF
                have HF := Lib.hid TF_.out
                have HB := Lib.hid TB_.out
                clear TB_ TF_
                try rw [hbk_]
                obtain ⟨r1, hw_⟩ : ∃ w', r0.alloc (.cells #[.int .i64 1, .int .i64 (1 + n), .int .i64 2, .int .i64 0, .int .i64 0] 29) = w' := ⟨_, rfl⟩
                rw [hw_] at NX_ HB HF ⊢
                have HX := Lib.hid NX_.out
                clear hw_ hbk_ NX_
                have ltF_ := HF.out.lt
                have x0_ : r1.cell? ⟨bx, 0, none⟩ = some (.int .i64 1) := HX.out.cell 0
                have x1_ : r1.cell? ⟨bx, 1, none⟩ = some (.int .i64 (1 + n)) := HX.out.cell 1
                have x2_ : r1.cell? ⟨bx, 2, none⟩ = some (.int .i64 2) := HX.out.cell 2
                have x3_ : r1.cell? ⟨bx, 3, none⟩ = some (.int .i64 0) := HX.out.cell 3
                have x4_ : r1.cell? ⟨bx, 4, none⟩ = some (.int .i64 0) := HX.out.cell 4
                have ltX_ := HX.out.lt
                clear hc2 hb2
                obtain ⟨hv, ho64⟩ := Or.stand_ok (e := 1 + n) (by omega)
                obtain ⟨a0, a1, a2, a3, a4⟩ := Or.acc_newest HI.out (o := (Or.stand (1 + n))) hv HFU.out.symm
                have HIG := Lib.hid (HI.out.acc ((Or.stand (1 + n))))
                have HG64 := Lib.hid (Or.acc64 HO64.out ho64)
                have HGU := Lib.hid ((Or.acc_u f ((Or.stand (1 + n)))).trans HFU.out)
                have HGM := Lib.hid (HMI.out.acc (o := (Or.stand (1 + n))) HFU.out.symm)
                obtain ⟨o, ho⟩ : ∃ o, (Or.stand (1 + n)) = o := ⟨_, rfl⟩
                have HO1 := Lib.hid (show (1 : Int) = o.u ∧ 1 + n = o.e by rw [← ho]; exact ⟨rfl, rfl⟩)
                obtain ⟨g, hg⟩ : ∃ g, Or.acc f ((Or.stand (1 + n))) = g := ⟨_, rfl⟩
                obtain ⟨ra, hra⟩ : ∃ b, Or.accB f ((Or.stand (1 + n))) = b := ⟨_, rfl⟩
                have HAE := Lib.hid a0
                have HAB := Lib.hid hra
                have HGG := Lib.hid hg
                have hra2 : decide (f.o.e < o.e) = ra := by rw [← ho, ← a1]; exact hra
                have hmx : max f.o.e o.e = g.o.e := by rw [← hg, a2, ho]
                have hga : g.a = true := by rw [← hg]; exact a3
                have HTK := Lib.hid (show ra = true → g.o = o by intro h; rw [← hg, ← ho]; exact a4 (hra.trans h))
                rw [hg] at HIG HG64 HGU HGM
                have HGO := Lib.hid ((HGM.out hga).trans HGU.out)
                have HGA := Lib.hid hga
                have HOO := Lib.hid ho
                have HMX := Lib.hid hmx
                have HRA2 := Lib.hid hra2
                clear a0 a1 a2 a3 a4 hra hg hra2 hmx hga hv ho64 ho
                go_wp2_with fail
                refine (accept_any p f (Or.stand (1 + n)) _ HF.out).mono ?_
                rw [HAE.out, HAB.out, HGG.out]
                rintro e r2 ⟨rfl, hf, hb⟩
                have TX_ := Lib.hid (HX.out.chg hb (by omega))
                have TB_ := Lib.hid (HB.out.trans (hb.below (B := w.heap.size) (fun k e => by omega) HB.out.size))
                clear ltF_ x0_ x1_ x2_ x3_ x4_ ltX_
                clear HB HX
                have HX := Lib.hid TX_.out
                have HB := Lib.hid TB_.out
                clear TB_ TX_
                have HF0 := Lib.hid HF.out
                clear HF
                have HF := Lib.hid (show Blk r2 p 64 #[.int .i64 g.u, .int .i64 g.o.u, .int .i64 g.o.e, .int .i64 g.o.k, .int .i64 g.o.i, .int .i64 g.o.n, .bool g.a] from hf)
                clear hf HF0
                clear hb
                have ltF_ := HF.out.lt
                have x0_ : r2.cell? ⟨bx, 0, none⟩ = some (.int .i64 1) := HX.out.cell 0
                have x1_ : r2.cell? ⟨bx, 1, none⟩ = some (.int .i64 (1 + n)) := HX.out.cell 1
                have x2_ : r2.cell? ⟨bx, 2, none⟩ = some (.int .i64 2) := HX.out.cell 2
                have x3_ : r2.cell? ⟨bx, 3, none⟩ = some (.int .i64 0) := HX.out.cell 3
                have x4_ : r2.cell? ⟨bx, 4, none⟩ = some (.int .i64 0) := HX.out.cell 4
                have ltX_ := HX.out.lt
                have hRA : decide (f.o.e < 1 + n) = ra := by have := HRA2.out; rw [← HO1.out.2] at this; exact this
                have HMX2 := Lib.hid (show max f.o.e (1 + n) = g.o.e by have := HMX.out; rw [← HO1.out.2] at this; exact this)
                cases ra with
                | false =>
                  have hfe : ¬ f.o.e < 1 + n := of_decide_eq_false hRA
                  clear hRA
                  go_wp2_with fail
                  refine (latest_any p g _ HF.out).mono ?_
                  rintro e r5 ⟨rfl, hb⟩
                  have TF_ := Lib.hid (HF.out.low hb)
                  have TX_ := Lib.hid (HX.out.low hb)
                  have TB_ := Lib.hid (HB.out.trans (hb.mono HB.out.size))
                  clear ltF_ x0_ x1_ x2_ x3_ x4_ ltX_
                  clear HB HF HX
                  have HF := Lib.hid TF_.out
                  have HX := Lib.hid TX_.out
                  have HB := Lib.hid TB_.out
                  clear TB_ TF_ TX_
                  clear hb
                  have ltF_ := HF.out.lt
                  have x0_ : r5.cell? ⟨bx, 0, none⟩ = some (.int .i64 1) := HX.out.cell 0
                  have x1_ : r5.cell? ⟨bx, 1, none⟩ = some (.int .i64 (1 + n)) := HX.out.cell 1
                  have x2_ : r5.cell? ⟨bx, 2, none⟩ = some (.int .i64 2) := HX.out.cell 2
                  have x3_ : r5.cell? ⟨bx, 3, none⟩ = some (.int .i64 0) := HX.out.cell 3
                  have x4_ : r5.cell? ⟨bx, 4, none⟩ = some (.int .i64 0) := HX.out.cell 4
                  have ltX_ := HX.out.lt
                  have y1 : g.o.e = f.o.e := by rw [← HMX2.out]; omega
                  have hga := HGA.out
                  go_wp2
                  go_roundw
                  case rel => exact ⟨k + 1, g, p, by omega, by go_num, congrArg _ y1.symm, rfl, by first | exact hpw' | omega, ⟨HF.out.alloc _, HGU.out, HIG.out, HG64.out, HGM.out, HB.out.alloc HB.out.size _⟩⟩
                  case measure => simp [intOf]; omega
                | true =>
                  have hfe : f.o.e < 1 + n := of_decide_eq_true hRA
                  clear hRA
                  go_wp2_with fail
                  refine (latest_any p g _ HF.out).mono ?_
                  rintro e r5 ⟨rfl, hb⟩
                  have TF_ := Lib.hid (HF.out.low hb)
                  have TX_ := Lib.hid (HX.out.low hb)
                  have TB_ := Lib.hid (HB.out.trans (hb.mono HB.out.size))
                  clear ltF_ x0_ x1_ x2_ x3_ x4_ ltX_
                  clear HB HF HX
                  have HF := Lib.hid TF_.out
                  have HX := Lib.hid TX_.out
                  have HB := Lib.hid TB_.out
                  clear TB_ TF_ TX_
                  clear hb
                  have ltF_ := HF.out.lt
                  have x0_ : r5.cell? ⟨bx, 0, none⟩ = some (.int .i64 1) := HX.out.cell 0
                  have x1_ : r5.cell? ⟨bx, 1, none⟩ = some (.int .i64 (1 + n)) := HX.out.cell 1
                  have x2_ : r5.cell? ⟨bx, 2, none⟩ = some (.int .i64 2) := HX.out.cell 2
                  have x3_ : r5.cell? ⟨bx, 3, none⟩ = some (.int .i64 0) := HX.out.cell 3
                  have x4_ : r5.cell? ⟨bx, 4, none⟩ = some (.int .i64 0) := HX.out.cell 4
                  have ltX_ := HX.out.lt
                  have hgo := HTK.out (by trivial)
                  rw [← HOO.out] at hgo
                  have y0 : g.o.u = 1 := by rw [hgo]; rfl
                  have y1 : g.o.e = 1 + n := by rw [hgo]; rfl
                  have y2 : g.o.k = 2 := by rw [hgo]; rfl
                  have y3 : g.o.i = 0 := by rw [hgo]; rfl
                  have y4 : g.o.n = 0 := by rw [hgo]; rfl
                  clear hgo
                  have hga := HGA.out
                  go_wp2
                  go_roundw
                  case rel => exact ⟨k + 1, g, p, by omega, by go_num, congrArg _ y1.symm, rfl, by first | exact hpw' | omega, ⟨HF.out.alloc _, HGU.out, HIG.out, HG64.out, HGM.out, HB.out.alloc HB.out.size _⟩⟩
                  case measure => simp [intOf]; omega
          · have hkt : (kn % 3 == 1) = false := by simpa using hk3
            clear hk3
            by_cases hrl : k < rs.length
            · cases hrb : rs[k] with
              | true =>
                have HRN := Lib.hid (show (rs.map Value.bool)[k]? = some (.bool true) by rw [List.getElem?_map, List.getElem?_eq_getElem hrl, hrb]; rfl)
                clear hrb
                · skip
                  have ltF_ := HF.out.lt
                  go_wp2_with fail
                  refine (going_any (1 + n) _).mono ?_
                  rintro e r0 ⟨rfl, hb⟩
                  have TF_ := Lib.hid (HF.out.low hb)
                  have TB_ := Lib.hid (HB.out.trans (hb.mono HB.out.size))
                  clear ltF_
                  clear HB HF
                  have HF := Lib.hid TF_.out
                  have HB := Lib.hid TB_.out
                  clear TB_ TF_
                  clear hb
                  have ltF_ := HF.out.lt
                  obtain ⟨ad2, hA2, hc2⟩ := (HK.out.low HB.out) k (.int .u8 kn) HKN.out
                  have hb2 := World.block_lt_of_cell? r0 _ hc2
                  subst hA2
                  go_wp2_with fail
                  obtain ⟨bx, hbk_⟩ : ∃ b, r0.heap.size = b := ⟨_, rfl⟩
                  have NX_ := Lib.hid (Blk.new' r0 29 #[.int .i64 1, .int .i64 (1 + n), .int .i64 1, .int .i64 4, .int .i64 2] bx hbk_)
                  have oFX_ : p < bx := by have := HF.out.lt; omega
                  have TF_ := Lib.hid ((HF.out.low ((Below.refl _ _).alloc (Nat.le_refl _) (.cells #[.int .i64 1, .int .i64 (1 + n), .int .i64 1, .int .i64 4, .int .i64 2] 29))))
                  have TB_ := Lib.hid (HB.out.alloc HB.out.size (.cells #[.int .i64 1, .int .i64 (1 + n), .int .i64 1, .int .i64 4, .int .i64 2] 29))
                  clear ltF_
                  clear HB HF
                  have HF := Lib.hid TF_.out
                  have HB := Lib.hid TB_.out
                  clear TB_ TF_
                  try rw [hbk_]
                  obtain ⟨r1, hw_⟩ : ∃ w', r0.alloc (.cells #[.int .i64 1, .int .i64 (1 + n), .int .i64 1, .int .i64 4, .int .i64 2] 29) = w' := ⟨_, rfl⟩
                  rw [hw_] at NX_ HB HF ⊢
                  have HX := Lib.hid NX_.out
                  clear hw_ hbk_ NX_
                  have ltF_ := HF.out.lt
                  have x0_ : r1.cell? ⟨bx, 0, none⟩ = some (.int .i64 1) := HX.out.cell 0
                  have x1_ : r1.cell? ⟨bx, 1, none⟩ = some (.int .i64 (1 + n)) := HX.out.cell 1
                  have x2_ : r1.cell? ⟨bx, 2, none⟩ = some (.int .i64 1) := HX.out.cell 2
                  have x3_ : r1.cell? ⟨bx, 3, none⟩ = some (.int .i64 4) := HX.out.cell 3
                  have x4_ : r1.cell? ⟨bx, 4, none⟩ = some (.int .i64 2) := HX.out.cell 4
                  have ltX_ := HX.out.lt
                  clear hc2 hb2
                  obtain ⟨hv, ho64⟩ := Or.go_ok (e := 1 + n) (by omega)
                  obtain ⟨a0, a1, a2, a3, a4⟩ := Or.acc_newest HI.out (o := (Or.go (1 + n))) hv HFU.out.symm
                  have HIG := Lib.hid (HI.out.acc ((Or.go (1 + n))))
                  have HG64 := Lib.hid (Or.acc64 HO64.out ho64)
                  have HGU := Lib.hid ((Or.acc_u f ((Or.go (1 + n)))).trans HFU.out)
                  have HGM := Lib.hid (HMI.out.acc (o := (Or.go (1 + n))) HFU.out.symm)
                  obtain ⟨o, ho⟩ : ∃ o, (Or.go (1 + n)) = o := ⟨_, rfl⟩
                  have HO1 := Lib.hid (show (1 : Int) = o.u ∧ 1 + n = o.e by rw [← ho]; exact ⟨rfl, rfl⟩)
                  obtain ⟨g, hg⟩ : ∃ g, Or.acc f ((Or.go (1 + n))) = g := ⟨_, rfl⟩
                  obtain ⟨ra, hra⟩ : ∃ b, Or.accB f ((Or.go (1 + n))) = b := ⟨_, rfl⟩
                  have HAE := Lib.hid a0
                  have HAB := Lib.hid hra
                  have HGG := Lib.hid hg
                  have hra2 : decide (f.o.e < o.e) = ra := by rw [← ho, ← a1]; exact hra
                  have hmx : max f.o.e o.e = g.o.e := by rw [← hg, a2, ho]
                  have hga : g.a = true := by rw [← hg]; exact a3
                  have HTK := Lib.hid (show ra = true → g.o = o by intro h; rw [← hg, ← ho]; exact a4 (hra.trans h))
                  rw [hg] at HIG HG64 HGU HGM
                  have HGO := Lib.hid ((HGM.out hga).trans HGU.out)
                  have HGA := Lib.hid hga
                  have HOO := Lib.hid ho
                  have HMX := Lib.hid hmx
                  have HRA2 := Lib.hid hra2
                  clear a0 a1 a2 a3 a4 hra hg hra2 hmx hga hv ho64 ho
                  go_wp2_with fail
                  refine (accept_any p f (Or.go (1 + n)) _ HF.out).mono ?_
                  rw [HAE.out, HAB.out, HGG.out]
                  rintro e r2 ⟨rfl, hf, hb⟩
                  have TX_ := Lib.hid (HX.out.chg hb (by omega))
                  have TB_ := Lib.hid (HB.out.trans (hb.below (B := w.heap.size) (fun k e => by omega) HB.out.size))
                  clear ltF_ x0_ x1_ x2_ x3_ x4_ ltX_
                  clear HB HX
                  have HX := Lib.hid TX_.out
                  have HB := Lib.hid TB_.out
                  clear TB_ TX_
                  have HF0 := Lib.hid HF.out
                  clear HF
                  have HF := Lib.hid (show Blk r2 p 64 #[.int .i64 g.u, .int .i64 g.o.u, .int .i64 g.o.e, .int .i64 g.o.k, .int .i64 g.o.i, .int .i64 g.o.n, .bool g.a] from hf)
                  clear hf HF0
                  clear hb
                  have ltF_ := HF.out.lt
                  have x0_ : r2.cell? ⟨bx, 0, none⟩ = some (.int .i64 1) := HX.out.cell 0
                  have x1_ : r2.cell? ⟨bx, 1, none⟩ = some (.int .i64 (1 + n)) := HX.out.cell 1
                  have x2_ : r2.cell? ⟨bx, 2, none⟩ = some (.int .i64 1) := HX.out.cell 2
                  have x3_ : r2.cell? ⟨bx, 3, none⟩ = some (.int .i64 4) := HX.out.cell 3
                  have x4_ : r2.cell? ⟨bx, 4, none⟩ = some (.int .i64 2) := HX.out.cell 4
                  have ltX_ := HX.out.lt
                  have hRA : decide (f.o.e < 1 + n) = ra := by have := HRA2.out; rw [← HO1.out.2] at this; exact this
                  have HMX2 := Lib.hid (show max f.o.e (1 + n) = g.o.e by have := HMX.out; rw [← HO1.out.2] at this; exact this)
                  cases ra with
                  | false =>
                    have hfe : ¬ f.o.e < 1 + n := of_decide_eq_false hRA
                    clear hRA
                    obtain ⟨ad3, hA3, hc3⟩ := (HRS.out.low HB.out) k (.bool true) HRN.out
                    subst hA3
                    obtain ⟨q, hq⟩ : ∃ q, Or.put g.o = q := ⟨_, rfl⟩
                    have HMQ := Lib.hid (show Or.marsh g = q by rw [Or.marsh_put HIG.out, hq])
                    obtain ⟨hr1, hr2⟩ := Or.rest_put (u := 1) (HIG.out.2 HGA.out) HG64.out HGO.out
                    rw [hq] at hr1 hr2
                    have HR1 := Lib.hid hr1
                    have HR2 := Lib.hid hr2
                    have HQB := Lib.hid (show Wr.Bts q from hq ▸ Or.put_bts g.o)
                    have hqp : 0 < q.length := hq ▸ Or.put_pos (HIG.out.2 HGA.out)
                    have HQL := Lib.hid (show q.length ≤ 50 from hq ▸ Or.put_len HG64.out)
                    clear hq hr1 hr2
                    go_wp2_with fail
                    refine (marshal_any p g _ HF.out HG64.out).mono ?_
                    rw [HMQ.out]
                    rintro e r3 ⟨Aq, cq, rfl, hq, hb⟩
                    have TF_ := Lib.hid (HF.out.low hb)
                    have TX_ := Lib.hid (HX.out.low hb)
                    have TB_ := Lib.hid (HB.out.trans (hb.mono HB.out.size))
                    clear ltF_ x0_ x1_ x2_ x3_ x4_ ltX_
                    clear HB HF HX
                    have HF := Lib.hid TF_.out
                    have HX := Lib.hid TX_.out
                    have HB := Lib.hid TB_.out
                    clear TB_ TF_ TX_
                    have HQO := Lib.hid (Rd.of_own hq)
                    clear hq
                    clear hb
                    have ltF_ := HF.out.lt
                    have x0_ : r3.cell? ⟨bx, 0, none⟩ = some (.int .i64 1) := HX.out.cell 0
                    have x1_ : r3.cell? ⟨bx, 1, none⟩ = some (.int .i64 (1 + n)) := HX.out.cell 1
                    have x2_ : r3.cell? ⟨bx, 2, none⟩ = some (.int .i64 1) := HX.out.cell 2
                    have x3_ : r3.cell? ⟨bx, 3, none⟩ = some (.int .i64 4) := HX.out.cell 3
                    have x4_ : r3.cell? ⟨bx, 4, none⟩ = some (.int .i64 2) := HX.out.cell 4
                    have ltX_ := HX.out.lt
                    go_wp2_with fail
                    refine (restore_any 1 Aq q cq _ (by decide +kernel) hqp HQO.out HQB.out (by have := HQL.out; omega)).mono ?_
                    obtain ⟨p2, hp2⟩ : ∃ p2, r3.heap.size = p2 := ⟨_, rfl⟩
                    have hpw2 : w.heap.size ≤ p2 := by have := HB.out.size; omega
                    rw [hp2]
                    rintro e r4 ⟨_, hgood, hb⟩
                    obtain ⟨rfl, hf⟩ := hgood HR1.out
                    have NF_ := Lib.hid (show Blk r4 p2 64 #[.int .i64 g.u, .int .i64 g.o.u, .int .i64 g.o.e, .int .i64 g.o.k, .int .i64 g.o.i, .int .i64 g.o.n, .bool g.a] by
                      have hf' : Blk r4 p2 64 #[.int .i64 1, .int .i64 (Or.decO q).u, .int .i64 (Or.decO q).e, .int .i64 (Or.decO q).k, .int .i64 (Or.decO q).i, .int .i64 (Or.decO q).n, .bool true] := hf
                      rw [HR2.out] at hf'
                      rw [HGU.out, HGA.out]; exact hf')
                    have hb2 : Below r3.heap.size r3 r4 := by rw [hp2]; exact hb
                    clear hb hf hgood
                    have hb := hb2
                    clear hb2
                    have TF_ := Lib.hid (HF.out.low hb)
                    have TX_ := Lib.hid (HX.out.low hb)
                    have TB_ := Lib.hid (HB.out.trans (hb.mono HB.out.size))
                    clear ltF_ x0_ x1_ x2_ x3_ x4_ ltX_
                    clear HB HF HX
                    have HF := Lib.hid TF_.out
                    have HX := Lib.hid TX_.out
                    have HB := Lib.hid TB_.out
                    clear TB_ TF_ TX_
                    clear hb HF hp2 HQO
                    have HF := Lib.hid NF_.out
                    clear NF_
                    have ltF_ := HF.out.lt
                    have x0_ : r4.cell? ⟨bx, 0, none⟩ = some (.int .i64 1) := HX.out.cell 0
                    have x1_ : r4.cell? ⟨bx, 1, none⟩ = some (.int .i64 (1 + n)) := HX.out.cell 1
                    have x2_ : r4.cell? ⟨bx, 2, none⟩ = some (.int .i64 1) := HX.out.cell 2
                    have x3_ : r4.cell? ⟨bx, 3, none⟩ = some (.int .i64 4) := HX.out.cell 3
                    have x4_ : r4.cell? ⟨bx, 4, none⟩ = some (.int .i64 2) := HX.out.cell 4
                    have ltX_ := HX.out.lt
                    go_wp2_with fail
                    refine (latest_any p2 g _ HF.out).mono ?_
                    rintro e r5 ⟨rfl, hb⟩
                    have TF_ := Lib.hid (HF.out.low hb)
                    have TX_ := Lib.hid (HX.out.low hb)
                    have TB_ := Lib.hid (HB.out.trans (hb.mono HB.out.size))
                    clear ltF_ x0_ x1_ x2_ x3_ x4_ ltX_
                    clear HB HF HX
                    have HF := Lib.hid TF_.out
                    have HX := Lib.hid TX_.out
                    have HB := Lib.hid TB_.out
                    clear TB_ TF_ TX_
                    clear hb
                    have ltF_ := HF.out.lt
                    have x0_ : r5.cell? ⟨bx, 0, none⟩ = some (.int .i64 1) := HX.out.cell 0
                    have x1_ : r5.cell? ⟨bx, 1, none⟩ = some (.int .i64 (1 + n)) := HX.out.cell 1
                    have x2_ : r5.cell? ⟨bx, 2, none⟩ = some (.int .i64 1) := HX.out.cell 2
                    have x3_ : r5.cell? ⟨bx, 3, none⟩ = some (.int .i64 4) := HX.out.cell 3
                    have x4_ : r5.cell? ⟨bx, 4, none⟩ = some (.int .i64 2) := HX.out.cell 4
                    have ltX_ := HX.out.lt
                    have y1 : g.o.e = f.o.e := by rw [← HMX2.out]; omega
                    have hga := HGA.out
                    go_wp2
                    go_roundw
                    case rel => exact ⟨k + 1, g, p2, by omega, by go_num, congrArg _ y1.symm, rfl, by first | exact hpw2 | omega, ⟨HF.out.alloc _, HGU.out, HIG.out, HG64.out, HGM.out, HB.out.alloc HB.out.size _⟩⟩
                    case measure => simp [intOf]; omega
                  | true =>
                    have hfe : f.o.e < 1 + n := of_decide_eq_true hRA
                    clear hRA
                    obtain ⟨ad3, hA3, hc3⟩ := (HRS.out.low HB.out) k (.bool true) HRN.out
                    subst hA3
                    obtain ⟨q, hq⟩ : ∃ q, Or.put g.o = q := ⟨_, rfl⟩
                    have HMQ := Lib.hid (show Or.marsh g = q by rw [Or.marsh_put HIG.out, hq])
                    obtain ⟨hr1, hr2⟩ := Or.rest_put (u := 1) (HIG.out.2 HGA.out) HG64.out HGO.out
                    rw [hq] at hr1 hr2
                    have HR1 := Lib.hid hr1
                    have HR2 := Lib.hid hr2
                    have HQB := Lib.hid (show Wr.Bts q from hq ▸ Or.put_bts g.o)
                    have hqp : 0 < q.length := hq ▸ Or.put_pos (HIG.out.2 HGA.out)
                    have HQL := Lib.hid (show q.length ≤ 50 from hq ▸ Or.put_len HG64.out)
                    clear hq hr1 hr2
                    go_wp2_with fail
                    refine (marshal_any p g _ HF.out HG64.out).mono ?_
                    rw [HMQ.out]
                    rintro e r3 ⟨Aq, cq, rfl, hq, hb⟩
                    have TF_ := Lib.hid (HF.out.low hb)
                    have TX_ := Lib.hid (HX.out.low hb)
                    have TB_ := Lib.hid (HB.out.trans (hb.mono HB.out.size))
                    clear ltF_ x0_ x1_ x2_ x3_ x4_ ltX_
                    clear HB HF HX
                    have HF := Lib.hid TF_.out
                    have HX := Lib.hid TX_.out
                    have HB := Lib.hid TB_.out
                    clear TB_ TF_ TX_
                    have HQO := Lib.hid (Rd.of_own hq)
                    clear hq
                    clear hb
                    have ltF_ := HF.out.lt
                    have x0_ : r3.cell? ⟨bx, 0, none⟩ = some (.int .i64 1) := HX.out.cell 0
                    have x1_ : r3.cell? ⟨bx, 1, none⟩ = some (.int .i64 (1 + n)) := HX.out.cell 1
                    have x2_ : r3.cell? ⟨bx, 2, none⟩ = some (.int .i64 1) := HX.out.cell 2
                    have x3_ : r3.cell? ⟨bx, 3, none⟩ = some (.int .i64 4) := HX.out.cell 3
                    have x4_ : r3.cell? ⟨bx, 4, none⟩ = some (.int .i64 2) := HX.out.cell 4
                    have ltX_ := HX.out.lt
                    go_wp2_with fail
                    refine (restore_any 1 Aq q cq _ (by decide +kernel) hqp HQO.out HQB.out (by have := HQL.out; omega)).mono ?_
                    obtain ⟨p2, hp2⟩ : ∃ p2, r3.heap.size = p2 := ⟨_, rfl⟩
                    have hpw2 : w.heap.size ≤ p2 := by have := HB.out.size; omega
                    rw [hp2]
                    rintro e r4 ⟨_, hgood, hb⟩
                    obtain ⟨rfl, hf⟩ := hgood HR1.out
                    have NF_ := Lib.hid (show Blk r4 p2 64 #[.int .i64 g.u, .int .i64 g.o.u, .int .i64 g.o.e, .int .i64 g.o.k, .int .i64 g.o.i, .int .i64 g.o.n, .bool g.a] by
                      have hf' : Blk r4 p2 64 #[.int .i64 1, .int .i64 (Or.decO q).u, .int .i64 (Or.decO q).e, .int .i64 (Or.decO q).k, .int .i64 (Or.decO q).i, .int .i64 (Or.decO q).n, .bool true] := hf
                      rw [HR2.out] at hf'
                      rw [HGU.out, HGA.out]; exact hf')
                    have hb2 : Below r3.heap.size r3 r4 := by rw [hp2]; exact hb
                    clear hb hf hgood
                    have hb := hb2
                    clear hb2
                    have TF_ := Lib.hid (HF.out.low hb)
                    have TX_ := Lib.hid (HX.out.low hb)
                    have TB_ := Lib.hid (HB.out.trans (hb.mono HB.out.size))
                    clear ltF_ x0_ x1_ x2_ x3_ x4_ ltX_
                    clear HB HF HX
                    have HF := Lib.hid TF_.out
                    have HX := Lib.hid TX_.out
                    have HB := Lib.hid TB_.out
                    clear TB_ TF_ TX_
                    clear hb HF hp2 HQO
                    have HF := Lib.hid NF_.out
                    clear NF_
                    have ltF_ := HF.out.lt
                    have x0_ : r4.cell? ⟨bx, 0, none⟩ = some (.int .i64 1) := HX.out.cell 0
                    have x1_ : r4.cell? ⟨bx, 1, none⟩ = some (.int .i64 (1 + n)) := HX.out.cell 1
                    have x2_ : r4.cell? ⟨bx, 2, none⟩ = some (.int .i64 1) := HX.out.cell 2
                    have x3_ : r4.cell? ⟨bx, 3, none⟩ = some (.int .i64 4) := HX.out.cell 3
                    have x4_ : r4.cell? ⟨bx, 4, none⟩ = some (.int .i64 2) := HX.out.cell 4
                    have ltX_ := HX.out.lt
                    go_wp2_with fail
                    refine (latest_any p2 g _ HF.out).mono ?_
                    rintro e r5 ⟨rfl, hb⟩
                    have TF_ := Lib.hid (HF.out.low hb)
                    have TX_ := Lib.hid (HX.out.low hb)
                    have TB_ := Lib.hid (HB.out.trans (hb.mono HB.out.size))
                    clear ltF_ x0_ x1_ x2_ x3_ x4_ ltX_
                    clear HB HF HX
                    have HF := Lib.hid TF_.out
                    have HX := Lib.hid TX_.out
                    have HB := Lib.hid TB_.out
                    clear TB_ TF_ TX_
                    clear hb
                    have ltF_ := HF.out.lt
                    have x0_ : r5.cell? ⟨bx, 0, none⟩ = some (.int .i64 1) := HX.out.cell 0
                    have x1_ : r5.cell? ⟨bx, 1, none⟩ = some (.int .i64 (1 + n)) := HX.out.cell 1
                    have x2_ : r5.cell? ⟨bx, 2, none⟩ = some (.int .i64 1) := HX.out.cell 2
                    have x3_ : r5.cell? ⟨bx, 3, none⟩ = some (.int .i64 4) := HX.out.cell 3
                    have x4_ : r5.cell? ⟨bx, 4, none⟩ = some (.int .i64 2) := HX.out.cell 4
                    have ltX_ := HX.out.lt
                    have hgo := HTK.out (by trivial)
                    rw [← HOO.out] at hgo
                    have y0 : g.o.u = 1 := by rw [hgo]; rfl
                    have y1 : g.o.e = 1 + n := by rw [hgo]; rfl
                    have y2 : g.o.k = 1 := by rw [hgo]; rfl
                    have y3 : g.o.i = 4 := by rw [hgo]; rfl
                    have y4 : g.o.n = 2 := by rw [hgo]; rfl
                    clear hgo
                    have hga := HGA.out
                    go_wp2
                    go_roundw
                    case rel => exact ⟨k + 1, g, p2, by omega, by go_num, congrArg _ y1.symm, rfl, by first | exact hpw2 | omega, ⟨HF.out.alloc _, HGU.out, HIG.out, HG64.out, HGM.out, HB.out.alloc HB.out.size _⟩⟩
                    case measure => simp [intOf]; omega
              | false =>
                have HRN := Lib.hid (show (rs.map Value.bool)[k]? = some (.bool false) by rw [List.getElem?_map, List.getElem?_eq_getElem hrl, hrb]; rfl)
                clear hrb
                · skip
                  have ltF_ := HF.out.lt
                  go_wp2_with fail
                  refine (going_any (1 + n) _).mono ?_
                  rintro e r0 ⟨rfl, hb⟩
                  have TF_ := Lib.hid (HF.out.low hb)
                  have TB_ := Lib.hid (HB.out.trans (hb.mono HB.out.size))
                  clear ltF_
                  clear HB HF
                  have HF := Lib.hid TF_.out
                  have HB := Lib.hid TB_.out
                  clear TB_ TF_
                  clear hb
                  have ltF_ := HF.out.lt
                  obtain ⟨ad2, hA2, hc2⟩ := (HK.out.low HB.out) k (.int .u8 kn) HKN.out
                  have hb2 := World.block_lt_of_cell? r0 _ hc2
                  subst hA2
                  go_wp2_with fail
                  obtain ⟨bx, hbk_⟩ : ∃ b, r0.heap.size = b := ⟨_, rfl⟩
                  have NX_ := Lib.hid (Blk.new' r0 29 #[.int .i64 1, .int .i64 (1 + n), .int .i64 1, .int .i64 4, .int .i64 2] bx hbk_)
                  have oFX_ : p < bx := by have := HF.out.lt; omega
                  have TF_ := Lib.hid ((HF.out.low ((Below.refl _ _).alloc (Nat.le_refl _) (.cells #[.int .i64 1, .int .i64 (1 + n), .int .i64 1, .int .i64 4, .int .i64 2] 29))))
                  have TB_ := Lib.hid (HB.out.alloc HB.out.size (.cells #[.int .i64 1, .int .i64 (1 + n), .int .i64 1, .int .i64 4, .int .i64 2] 29))
                  clear ltF_
                  clear HB HF
                  have HF := Lib.hid TF_.out
                  have HB := Lib.hid TB_.out
                  clear TB_ TF_
                  try rw [hbk_]
                  obtain ⟨r1, hw_⟩ : ∃ w', r0.alloc (.cells #[.int .i64 1, .int .i64 (1 + n), .int .i64 1, .int .i64 4, .int .i64 2] 29) = w' := ⟨_, rfl⟩
                  rw [hw_] at NX_ HB HF ⊢
                  have HX := Lib.hid NX_.out
                  clear hw_ hbk_ NX_
                  have ltF_ := HF.out.lt
                  have x0_ : r1.cell? ⟨bx, 0, none⟩ = some (.int .i64 1) := HX.out.cell 0
                  have x1_ : r1.cell? ⟨bx, 1, none⟩ = some (.int .i64 (1 + n)) := HX.out.cell 1
                  have x2_ : r1.cell? ⟨bx, 2, none⟩ = some (.int .i64 1) := HX.out.cell 2
                  have x3_ : r1.cell? ⟨bx, 3, none⟩ = some (.int .i64 4) := HX.out.cell 3
                  have x4_ : r1.cell? ⟨bx, 4, none⟩ = some (.int .i64 2) := HX.out.cell 4
                  have ltX_ := HX.out.lt
                  clear hc2 hb2
                  obtain ⟨hv, ho64⟩ := Or.go_ok (e := 1 + n) (by omega)
                  obtain ⟨a0, a1, a2, a3, a4⟩ := Or.acc_newest HI.out (o := (Or.go (1 + n))) hv HFU.out.symm
                  have HIG := Lib.hid (HI.out.acc ((Or.go (1 + n))))
                  have HG64 := Lib.hid (Or.acc64 HO64.out ho64)
                  have HGU := Lib.hid ((Or.acc_u f ((Or.go (1 + n)))).trans HFU.out)
                  have HGM := Lib.hid (HMI.out.acc (o := (Or.go (1 + n))) HFU.out.symm)
                  obtain ⟨o, ho⟩ : ∃ o, (Or.go (1 + n)) = o := ⟨_, rfl⟩
                  have HO1 := Lib.hid (show (1 : Int) = o.u ∧ 1 + n = o.e by rw [← ho]; exact ⟨rfl, rfl⟩)
                  obtain ⟨g, hg⟩ : ∃ g, Or.acc f ((Or.go (1 + n))) = g := ⟨_, rfl⟩
                  obtain ⟨ra, hra⟩ : ∃ b, Or.accB f ((Or.go (1 + n))) = b := ⟨_, rfl⟩
                  have HAE := Lib.hid a0
                  have HAB := Lib.hid hra
                  have HGG := Lib.hid hg
                  have hra2 : decide (f.o.e < o.e) = ra := by rw [← ho, ← a1]; exact hra
                  have hmx : max f.o.e o.e = g.o.e := by rw [← hg, a2, ho]
                  have hga : g.a = true := by rw [← hg]; exact a3
                  have HTK := Lib.hid (show ra = true → g.o = o by intro h; rw [← hg, ← ho]; exact a4 (hra.trans h))
                  rw [hg] at HIG HG64 HGU HGM
                  have HGO := Lib.hid ((HGM.out hga).trans HGU.out)
                  have HGA := Lib.hid hga
                  have HOO := Lib.hid ho
                  have HMX := Lib.hid hmx
                  have HRA2 := Lib.hid hra2
                  clear a0 a1 a2 a3 a4 hra hg hra2 hmx hga hv ho64 ho
                  go_wp2_with fail
                  refine (accept_any p f (Or.go (1 + n)) _ HF.out).mono ?_
                  rw [HAE.out, HAB.out, HGG.out]
                  rintro e r2 ⟨rfl, hf, hb⟩
                  have TX_ := Lib.hid (HX.out.chg hb (by omega))
                  have TB_ := Lib.hid (HB.out.trans (hb.below (B := w.heap.size) (fun k e => by omega) HB.out.size))
                  clear ltF_ x0_ x1_ x2_ x3_ x4_ ltX_
                  clear HB HX
                  have HX := Lib.hid TX_.out
                  have HB := Lib.hid TB_.out
                  clear TB_ TX_
                  have HF0 := Lib.hid HF.out
                  clear HF
                  have HF := Lib.hid (show Blk r2 p 64 #[.int .i64 g.u, .int .i64 g.o.u, .int .i64 g.o.e, .int .i64 g.o.k, .int .i64 g.o.i, .int .i64 g.o.n, .bool g.a] from hf)
                  clear hf HF0
                  clear hb
                  have ltF_ := HF.out.lt
                  have x0_ : r2.cell? ⟨bx, 0, none⟩ = some (.int .i64 1) := HX.out.cell 0
                  have x1_ : r2.cell? ⟨bx, 1, none⟩ = some (.int .i64 (1 + n)) := HX.out.cell 1
                  have x2_ : r2.cell? ⟨bx, 2, none⟩ = some (.int .i64 1) := HX.out.cell 2
                  have x3_ : r2.cell? ⟨bx, 3, none⟩ = some (.int .i64 4) := HX.out.cell 3
                  have x4_ : r2.cell? ⟨bx, 4, none⟩ = some (.int .i64 2) := HX.out.cell 4
                  have ltX_ := HX.out.lt
                  have hRA : decide (f.o.e < 1 + n) = ra := by have := HRA2.out; rw [← HO1.out.2] at this; exact this
                  have HMX2 := Lib.hid (show max f.o.e (1 + n) = g.o.e by have := HMX.out; rw [← HO1.out.2] at this; exact this)
                  cases ra with
                  | false =>
                    have hfe : ¬ f.o.e < 1 + n := of_decide_eq_false hRA
                    clear hRA
                    obtain ⟨ad3, hA3, hc3⟩ := (HRS.out.low HB.out) k (.bool false) HRN.out
                    subst hA3
                    go_wp2_with fail
                    refine (latest_any p g _ HF.out).mono ?_
                    rintro e r5 ⟨rfl, hb⟩
                    have TF_ := Lib.hid (HF.out.low hb)
                    have TX_ := Lib.hid (HX.out.low hb)
                    have TB_ := Lib.hid (HB.out.trans (hb.mono HB.out.size))
                    clear ltF_ x0_ x1_ x2_ x3_ x4_ ltX_
                    clear HB HF HX
                    have HF := Lib.hid TF_.out
                    have HX := Lib.hid TX_.out
                    have HB := Lib.hid TB_.out
                    clear TB_ TF_ TX_
                    clear hb
                    have ltF_ := HF.out.lt
                    have x0_ : r5.cell? ⟨bx, 0, none⟩ = some (.int .i64 1) := HX.out.cell 0
                    have x1_ : r5.cell? ⟨bx, 1, none⟩ = some (.int .i64 (1 + n)) := HX.out.cell 1
                    have x2_ : r5.cell? ⟨bx, 2, none⟩ = some (.int .i64 1) := HX.out.cell 2
                    have x3_ : r5.cell? ⟨bx, 3, none⟩ = some (.int .i64 4) := HX.out.cell 3
                    have x4_ : r5.cell? ⟨bx, 4, none⟩ = some (.int .i64 2) := HX.out.cell 4
                    have ltX_ := HX.out.lt
                    have y1 : g.o.e = f.o.e := by rw [← HMX2.out]; omega
                    have hga := HGA.out
                    go_wp2
                    go_roundw
                    case rel => exact ⟨k + 1, g, p, by omega, by go_num, congrArg _ y1.symm, rfl, by first | exact hpw' | omega, ⟨HF.out.alloc _, HGU.out, HIG.out, HG64.out, HGM.out, HB.out.alloc HB.out.size _⟩⟩
                    case measure => simp [intOf]; omega
                  | true =>
                    have hfe : f.o.e < 1 + n := of_decide_eq_true hRA
                    clear hRA
                    obtain ⟨ad3, hA3, hc3⟩ := (HRS.out.low HB.out) k (.bool false) HRN.out
                    subst hA3
                    go_wp2_with fail
                    refine (latest_any p g _ HF.out).mono ?_
                    rintro e r5 ⟨rfl, hb⟩
                    have TF_ := Lib.hid (HF.out.low hb)
                    have TX_ := Lib.hid (HX.out.low hb)
                    have TB_ := Lib.hid (HB.out.trans (hb.mono HB.out.size))
                    clear ltF_ x0_ x1_ x2_ x3_ x4_ ltX_
                    clear HB HF HX
                    have HF := Lib.hid TF_.out
                    have HX := Lib.hid TX_.out
                    have HB := Lib.hid TB_.out
                    clear TB_ TF_ TX_
                    clear hb
                    have ltF_ := HF.out.lt
                    have x0_ : r5.cell? ⟨bx, 0, none⟩ = some (.int .i64 1) := HX.out.cell 0
                    have x1_ : r5.cell? ⟨bx, 1, none⟩ = some (.int .i64 (1 + n)) := HX.out.cell 1
                    have x2_ : r5.cell? ⟨bx, 2, none⟩ = some (.int .i64 1) := HX.out.cell 2
                    have x3_ : r5.cell? ⟨bx, 3, none⟩ = some (.int .i64 4) := HX.out.cell 3
                    have x4_ : r5.cell? ⟨bx, 4, none⟩ = some (.int .i64 2) := HX.out.cell 4
                    have ltX_ := HX.out.lt
                    have hgo := HTK.out (by trivial)
                    rw [← HOO.out] at hgo
                    have y0 : g.o.u = 1 := by rw [hgo]; rfl
                    have y1 : g.o.e = 1 + n := by rw [hgo]; rfl
                    have y2 : g.o.k = 1 := by rw [hgo]; rfl
                    have y3 : g.o.i = 4 := by rw [hgo]; rfl
                    have y4 : g.o.n = 2 := by rw [hgo]; rfl
                    clear hgo
                    have hga := HGA.out
                    go_wp2
                    go_roundw
                    case rel => exact ⟨k + 1, g, p, by omega, by go_num, congrArg _ y1.symm, rfl, by first | exact hpw' | omega, ⟨HF.out.alloc _, HGU.out, HIG.out, HG64.out, HGM.out, HB.out.alloc HB.out.size _⟩⟩
                    case measure => simp [intOf]; omega
            · skip
              · skip
                have ltF_ := HF.out.lt
                go_wp2_with fail
                refine (going_any (1 + n) _).mono ?_
                rintro e r0 ⟨rfl, hb⟩
                have TF_ := Lib.hid (HF.out.low hb)
                have TB_ := Lib.hid (HB.out.trans (hb.mono HB.out.size))
                clear ltF_
                clear HB HF
                have HF := Lib.hid TF_.out
                have HB := Lib.hid TB_.out
                clear TB_ TF_
                clear hb
                have ltF_ := HF.out.lt
                obtain ⟨ad2, hA2, hc2⟩ := (HK.out.low HB.out) k (.int .u8 kn) HKN.out
                have hb2 := World.block_lt_of_cell? r0 _ hc2
                subst hA2
                go_wp2_with fail
                obtain ⟨bx, hbk_⟩ : ∃ b, r0.heap.size = b := ⟨_, rfl⟩
                have NX_ := Lib.hid (Blk.new' r0 29 #[.int .i64 1, .int .i64 (1 + n), .int .i64 1, .int .i64 4, .int .i64 2] bx hbk_)
                have oFX_ : p < bx := by have := HF.out.lt; omega
                have TF_ := Lib.hid ((HF.out.low ((Below.refl _ _).alloc (Nat.le_refl _) (.cells #[.int .i64 1, .int .i64 (1 + n), .int .i64 1, .int .i64 4, .int .i64 2] 29))))
                have TB_ := Lib.hid (HB.out.alloc HB.out.size (.cells #[.int .i64 1, .int .i64 (1 + n), .int .i64 1, .int .i64 4, .int .i64 2] 29))
                clear ltF_
                clear HB HF
                have HF := Lib.hid TF_.out
                have HB := Lib.hid TB_.out
                clear TB_ TF_
                try rw [hbk_]
                obtain ⟨r1, hw_⟩ : ∃ w', r0.alloc (.cells #[.int .i64 1, .int .i64 (1 + n), .int .i64 1, .int .i64 4, .int .i64 2] 29) = w' := ⟨_, rfl⟩
                rw [hw_] at NX_ HB HF ⊢
                have HX := Lib.hid NX_.out
                clear hw_ hbk_ NX_
                have ltF_ := HF.out.lt
                have x0_ : r1.cell? ⟨bx, 0, none⟩ = some (.int .i64 1) := HX.out.cell 0
                have x1_ : r1.cell? ⟨bx, 1, none⟩ = some (.int .i64 (1 + n)) := HX.out.cell 1
                have x2_ : r1.cell? ⟨bx, 2, none⟩ = some (.int .i64 1) := HX.out.cell 2
                have x3_ : r1.cell? ⟨bx, 3, none⟩ = some (.int .i64 4) := HX.out.cell 3
                have x4_ : r1.cell? ⟨bx, 4, none⟩ = some (.int .i64 2) := HX.out.cell 4
                have ltX_ := HX.out.lt
                clear hc2 hb2
                obtain ⟨hv, ho64⟩ := Or.go_ok (e := 1 + n) (by omega)
                obtain ⟨a0, a1, a2, a3, a4⟩ := Or.acc_newest HI.out (o := (Or.go (1 + n))) hv HFU.out.symm
                have HIG := Lib.hid (HI.out.acc ((Or.go (1 + n))))
                have HG64 := Lib.hid (Or.acc64 HO64.out ho64)
                have HGU := Lib.hid ((Or.acc_u f ((Or.go (1 + n)))).trans HFU.out)
                have HGM := Lib.hid (HMI.out.acc (o := (Or.go (1 + n))) HFU.out.symm)
                obtain ⟨o, ho⟩ : ∃ o, (Or.go (1 + n)) = o := ⟨_, rfl⟩
                have HO1 := Lib.hid (show (1 : Int) = o.u ∧ 1 + n = o.e by rw [← ho]; exact ⟨rfl, rfl⟩)
                obtain ⟨g, hg⟩ : ∃ g, Or.acc f ((Or.go (1 + n))) = g := ⟨_, rfl⟩
                obtain ⟨ra, hra⟩ : ∃ b, Or.accB f ((Or.go (1 + n))) = b := ⟨_, rfl⟩
                have HAE := Lib.hid a0
                have HAB := Lib.hid hra
                have HGG := Lib.hid hg
                have hra2 : decide (f.o.e < o.e) = ra := by rw [← ho, ← a1]; exact hra
                have hmx : max f.o.e o.e = g.o.e := by rw [← hg, a2, ho]
                have hga : g.a = true := by rw [← hg]; exact a3
                have HTK := Lib.hid (show ra = true → g.o = o by intro h; rw [← hg, ← ho]; exact a4 (hra.trans h))
                rw [hg] at HIG HG64 HGU HGM
                have HGO := Lib.hid ((HGM.out hga).trans HGU.out)
                have HGA := Lib.hid hga
                have HOO := Lib.hid ho
                have HMX := Lib.hid hmx
                have HRA2 := Lib.hid hra2
                clear a0 a1 a2 a3 a4 hra hg hra2 hmx hga hv ho64 ho
                go_wp2_with fail
                refine (accept_any p f (Or.go (1 + n)) _ HF.out).mono ?_
                rw [HAE.out, HAB.out, HGG.out]
                rintro e r2 ⟨rfl, hf, hb⟩
                have TX_ := Lib.hid (HX.out.chg hb (by omega))
                have TB_ := Lib.hid (HB.out.trans (hb.below (B := w.heap.size) (fun k e => by omega) HB.out.size))
                clear ltF_ x0_ x1_ x2_ x3_ x4_ ltX_
                clear HB HX
                have HX := Lib.hid TX_.out
                have HB := Lib.hid TB_.out
                clear TB_ TX_
                have HF0 := Lib.hid HF.out
                clear HF
                have HF := Lib.hid (show Blk r2 p 64 #[.int .i64 g.u, .int .i64 g.o.u, .int .i64 g.o.e, .int .i64 g.o.k, .int .i64 g.o.i, .int .i64 g.o.n, .bool g.a] from hf)
                clear hf HF0
                clear hb
                have ltF_ := HF.out.lt
                have x0_ : r2.cell? ⟨bx, 0, none⟩ = some (.int .i64 1) := HX.out.cell 0
                have x1_ : r2.cell? ⟨bx, 1, none⟩ = some (.int .i64 (1 + n)) := HX.out.cell 1
                have x2_ : r2.cell? ⟨bx, 2, none⟩ = some (.int .i64 1) := HX.out.cell 2
                have x3_ : r2.cell? ⟨bx, 3, none⟩ = some (.int .i64 4) := HX.out.cell 3
                have x4_ : r2.cell? ⟨bx, 4, none⟩ = some (.int .i64 2) := HX.out.cell 4
                have ltX_ := HX.out.lt
                have hRA : decide (f.o.e < 1 + n) = ra := by have := HRA2.out; rw [← HO1.out.2] at this; exact this
                have HMX2 := Lib.hid (show max f.o.e (1 + n) = g.o.e by have := HMX.out; rw [← HO1.out.2] at this; exact this)
                cases ra with
                | false =>
                  have hfe : ¬ f.o.e < 1 + n := of_decide_eq_false hRA
                  clear hRA
                  go_wp2_with fail
                  refine (latest_any p g _ HF.out).mono ?_
                  rintro e r5 ⟨rfl, hb⟩
                  have TF_ := Lib.hid (HF.out.low hb)
                  have TX_ := Lib.hid (HX.out.low hb)
                  have TB_ := Lib.hid (HB.out.trans (hb.mono HB.out.size))
                  clear ltF_ x0_ x1_ x2_ x3_ x4_ ltX_
                  clear HB HF HX
                  have HF := Lib.hid TF_.out
                  have HX := Lib.hid TX_.out
                  have HB := Lib.hid TB_.out
                  clear TB_ TF_ TX_
                  clear hb
                  have ltF_ := HF.out.lt
                  have x0_ : r5.cell? ⟨bx, 0, none⟩ = some (.int .i64 1) := HX.out.cell 0
                  have x1_ : r5.cell? ⟨bx, 1, none⟩ = some (.int .i64 (1 + n)) := HX.out.cell 1
                  have x2_ : r5.cell? ⟨bx, 2, none⟩ = some (.int .i64 1) := HX.out.cell 2
                  have x3_ : r5.cell? ⟨bx, 3, none⟩ = some (.int .i64 4) := HX.out.cell 3
                  have x4_ : r5.cell? ⟨bx, 4, none⟩ = some (.int .i64 2) := HX.out.cell 4
                  have ltX_ := HX.out.lt
                  have y1 : g.o.e = f.o.e := by rw [← HMX2.out]; omega
                  have hga := HGA.out
                  go_wp2
                  go_roundw
                  case rel => exact ⟨k + 1, g, p, by omega, by go_num, congrArg _ y1.symm, rfl, by first | exact hpw' | omega, ⟨HF.out.alloc _, HGU.out, HIG.out, HG64.out, HGM.out, HB.out.alloc HB.out.size _⟩⟩
                  case measure => simp [intOf]; omega
                | true =>
                  have hfe : f.o.e < 1 + n := of_decide_eq_true hRA
                  clear hRA
                  go_wp2_with fail
                  refine (latest_any p g _ HF.out).mono ?_
                  rintro e r5 ⟨rfl, hb⟩
                  have TF_ := Lib.hid (HF.out.low hb)
                  have TX_ := Lib.hid (HX.out.low hb)
                  have TB_ := Lib.hid (HB.out.trans (hb.mono HB.out.size))
                  clear ltF_ x0_ x1_ x2_ x3_ x4_ ltX_
                  clear HB HF HX
                  have HF := Lib.hid TF_.out
                  have HX := Lib.hid TX_.out
                  have HB := Lib.hid TB_.out
                  clear TB_ TF_ TX_
                  clear hb
                  have ltF_ := HF.out.lt
                  have x0_ : r5.cell? ⟨bx, 0, none⟩ = some (.int .i64 1) := HX.out.cell 0
                  have x1_ : r5.cell? ⟨bx, 1, none⟩ = some (.int .i64 (1 + n)) := HX.out.cell 1
                  have x2_ : r5.cell? ⟨bx, 2, none⟩ = some (.int .i64 1) := HX.out.cell 2
                  have x3_ : r5.cell? ⟨bx, 3, none⟩ = some (.int .i64 4) := HX.out.cell 3
                  have x4_ : r5.cell? ⟨bx, 4, none⟩ = some (.int .i64 2) := HX.out.cell 4
                  have ltX_ := HX.out.lt
                  have hgo := HTK.out (by trivial)
                  rw [← HOO.out] at hgo
                  have y0 : g.o.u = 1 := by rw [hgo]; rfl
                  have y1 : g.o.e = 1 + n := by rw [hgo]; rfl
                  have y2 : g.o.k = 1 := by rw [hgo]; rfl
                  have y3 : g.o.i = 4 := by rw [hgo]; rfl
                  have y4 : g.o.n = 2 := by rw [hgo]; rfl
                  clear hgo
                  have hga := HGA.out
                  go_wp2
                  go_roundw
                  case rel => exact ⟨k + 1, g, p, by omega, by go_num, congrArg _ y1.symm, rfl, by first | exact hpw' | omega, ⟨HF.out.alloc _, HGU.out, HIG.out, HG64.out, HGM.out, HB.out.alloc HB.out.size _⟩⟩
                  case measure => simp [intOf]; omega
        · skip
          by_cases hrl : k < rs.length
          · cases hrb : rs[k] with
            | true =>
              have HRN := Lib.hid (show (rs.map Value.bool)[k]? = some (.bool true) by rw [List.getElem?_map, List.getElem?_eq_getElem hrl, hrb]; rfl)
              clear hrb
              · skip
                have ltF_ := HF.out.lt
                go_wp2_with fail
                refine (going_any (1 + n) _).mono ?_
                rintro e r0 ⟨rfl, hb⟩
                have TF_ := Lib.hid (HF.out.low hb)
                have TB_ := Lib.hid (HB.out.trans (hb.mono HB.out.size))
                clear ltF_
                clear HB HF
                have HF := Lib.hid TF_.out
                have HB := Lib.hid TB_.out
                clear TB_ TF_
                clear hb
                have ltF_ := HF.out.lt
                go_wp2_with fail
                obtain ⟨bx, hbk_⟩ : ∃ b, r0.heap.size = b := ⟨_, rfl⟩
                have NX_ := Lib.hid (Blk.new' r0 29 #[.int .i64 1, .int .i64 (1 + n), .int .i64 1, .int .i64 4, .int .i64 2] bx hbk_)
                have oFX_ : p < bx := by have := HF.out.lt; omega
                have TF_ := Lib.hid ((HF.out.low ((Below.refl _ _).alloc (Nat.le_refl _) (.cells #[.int .i64 1, .int .i64 (1 + n), .int .i64 1, .int .i64 4, .int .i64 2] 29))))
                have TB_ := Lib.hid (HB.out.alloc HB.out.size (.cells #[.int .i64 1, .int .i64 (1 + n), .int .i64 1, .int .i64 4, .int .i64 2] 29))
                clear ltF_
                clear HB HF
                have HF := Lib.hid TF_.out
                have HB := Lib.hid TB_.out
                clear TB_ TF_
                try rw [hbk_]
                obtain ⟨r1, hw_⟩ : ∃ w', r0.alloc (.cells #[.int .i64 1, .int .i64 (1 + n), .int .i64 1, .int .i64 4, .int .i64 2] 29) = w' := ⟨_, rfl⟩
                rw [hw_] at NX_ HB HF ⊢
                have HX := Lib.hid NX_.out
                clear hw_ hbk_ NX_
                have ltF_ := HF.out.lt
                have x0_ : r1.cell? ⟨bx, 0, none⟩ = some (.int .i64 1) := HX.out.cell 0
                have x1_ : r1.cell? ⟨bx, 1, none⟩ = some (.int .i64 (1 + n)) := HX.out.cell 1
                have x2_ : r1.cell? ⟨bx, 2, none⟩ = some (.int .i64 1) := HX.out.cell 2
                have x3_ : r1.cell? ⟨bx, 3, none⟩ = some (.int .i64 4) := HX.out.cell 3
                have x4_ : r1.cell? ⟨bx, 4, none⟩ = some (.int .i64 2) := HX.out.cell 4
                have ltX_ := HX.out.lt
                obtain ⟨hv, ho64⟩ := Or.go_ok (e := 1 + n) (by omega)
                obtain ⟨a0, a1, a2, a3, a4⟩ := Or.acc_newest HI.out (o := (Or.go (1 + n))) hv HFU.out.symm
                have HIG := Lib.hid (HI.out.acc ((Or.go (1 + n))))
                have HG64 := Lib.hid (Or.acc64 HO64.out ho64)
                have HGU := Lib.hid ((Or.acc_u f ((Or.go (1 + n)))).trans HFU.out)
                have HGM := Lib.hid (HMI.out.acc (o := (Or.go (1 + n))) HFU.out.symm)
                obtain ⟨o, ho⟩ : ∃ o, (Or.go (1 + n)) = o := ⟨_, rfl⟩
                have HO1 := Lib.hid (show (1 : Int) = o.u ∧ 1 + n = o.e by rw [← ho]; exact ⟨rfl, rfl⟩)
                obtain ⟨g, hg⟩ : ∃ g, Or.acc f ((Or.go (1 + n))) = g := ⟨_, rfl⟩
                obtain ⟨ra, hra⟩ : ∃ b, Or.accB f ((Or.go (1 + n))) = b := ⟨_, rfl⟩
                have HAE := Lib.hid a0
                have HAB := Lib.hid hra
                have HGG := Lib.hid hg
                have hra2 : decide (f.o.e < o.e) = ra := by rw [← ho, ← a1]; exact hra
                have hmx : max f.o.e o.e = g.o.e := by rw [← hg, a2, ho]
                have hga : g.a = true := by rw [← hg]; exact a3
                have HTK := Lib.hid (show ra = true → g.o = o by intro h; rw [← hg, ← ho]; exact a4 (hra.trans h))
                rw [hg] at HIG HG64 HGU HGM
                have HGO := Lib.hid ((HGM.out hga).trans HGU.out)
                have HGA := Lib.hid hga
                have HOO := Lib.hid ho
                have HMX := Lib.hid hmx
                have HRA2 := Lib.hid hra2
                clear a0 a1 a2 a3 a4 hra hg hra2 hmx hga hv ho64 ho
                go_wp2_with fail
                refine (accept_any p f (Or.go (1 + n)) _ HF.out).mono ?_
                rw [HAE.out, HAB.out, HGG.out]
                rintro e r2 ⟨rfl, hf, hb⟩
                have TX_ := Lib.hid (HX.out.chg hb (by omega))
                have TB_ := Lib.hid (HB.out.trans (hb.below (B := w.heap.size) (fun k e => by omega) HB.out.size))
                clear ltF_ x0_ x1_ x2_ x3_ x4_ ltX_
                clear HB HX
                have HX := Lib.hid TX_.out
                have HB := Lib.hid TB_.out
                clear TB_ TX_
                have HF0 := Lib.hid HF.out
                clear HF
                have HF := Lib.hid (show Blk r2 p 64 #[.int .i64 g.u, .int .i64 g.o.u, .int .i64 g.o.e, .int .i64 g.o.k, .int .i64 g.o.i, .int .i64 g.o.n, .bool g.a] from hf)
                clear hf HF0
                clear hb
                have ltF_ := HF.out.lt
                have x0_ : r2.cell? ⟨bx, 0, none⟩ = some (.int .i64 1) := HX.out.cell 0
                have x1_ : r2.cell? ⟨bx, 1, none⟩ = some (.int .i64 (1 + n)) := HX.out.cell 1
                have x2_ : r2.cell? ⟨bx, 2, none⟩ = some (.int .i64 1) := HX.out.cell 2
                have x3_ : r2.cell? ⟨bx, 3, none⟩ = some (.int .i64 4) := HX.out.cell 3
                have x4_ : r2.cell? ⟨bx, 4, none⟩ = some (.int .i64 2) := HX.out.cell 4
                have ltX_ := HX.out.lt
                have hRA : decide (f.o.e < 1 + n) = ra := by have := HRA2.out; rw [← HO1.out.2] at this; exact this
                have HMX2 := Lib.hid (show max f.o.e (1 + n) = g.o.e by have := HMX.out; rw [← HO1.out.2] at this; exact this)
                cases ra with
                | false =>
                  have hfe : ¬ f.o.e < 1 + n := of_decide_eq_false hRA
                  clear hRA
                  obtain ⟨ad3, hA3, hc3⟩ := (HRS.out.low HB.out) k (.bool true) HRN.out
                  subst hA3
                  obtain ⟨q, hq⟩ : ∃ q, Or.put g.o = q := ⟨_, rfl⟩
                  have HMQ := Lib.hid (show Or.marsh g = q by rw [Or.marsh_put HIG.out, hq])
                  obtain ⟨hr1, hr2⟩ := Or.rest_put (u := 1) (HIG.out.2 HGA.out) HG64.out HGO.out
                  rw [hq] at hr1 hr2
                  have HR1 := Lib.hid hr1
                  have HR2 := Lib.hid hr2
                  have HQB := Lib.hid (show Wr.Bts q from hq ▸ Or.put_bts g.o)
                  have hqp : 0 < q.length := hq ▸ Or.put_pos (HIG.out.2 HGA.out)
                  have HQL := Lib.hid (show q.length ≤ 50 from hq ▸ Or.put_len HG64.out)
                  clear hq hr1 hr2
                  go_wp2_with fail
                  refine (marshal_any p g _ HF.out HG64.out).mono ?_
                  rw [HMQ.out]
                  rintro e r3 ⟨Aq, cq, rfl, hq, hb⟩
                  have TF_ := Lib.hid (HF.out.low hb)
                  have TX_ := Lib.hid (HX.out.low hb)
                  have TB_ := Lib.hid (HB.out.trans (hb.mono HB.out.size))
                  clear ltF_ x0_ x1_ x2_ x3_ x4_ ltX_
                  clear HB HF HX
                  have HF := Lib.hid TF_.out
                  have HX := Lib.hid TX_.out
                  have HB := Lib.hid TB_.out
                  clear TB_ TF_ TX_
                  have HQO := Lib.hid (Rd.of_own hq)
                  clear hq
                  clear hb
                  have ltF_ := HF.out.lt
                  have x0_ : r3.cell? ⟨bx, 0, none⟩ = some (.int .i64 1) := HX.out.cell 0
                  have x1_ : r3.cell? ⟨bx, 1, none⟩ = some (.int .i64 (1 + n)) := HX.out.cell 1
                  have x2_ : r3.cell? ⟨bx, 2, none⟩ = some (.int .i64 1) := HX.out.cell 2
                  have x3_ : r3.cell? ⟨bx, 3, none⟩ = some (.int .i64 4) := HX.out.cell 3
                  have x4_ : r3.cell? ⟨bx, 4, none⟩ = some (.int .i64 2) := HX.out.cell 4
                  have ltX_ := HX.out.lt
                  go_wp2_with fail
                  refine (restore_any 1 Aq q cq _ (by decide +kernel) hqp HQO.out HQB.out (by have := HQL.out; omega)).mono ?_
                  obtain ⟨p2, hp2⟩ : ∃ p2, r3.heap.size = p2 := ⟨_, rfl⟩
                  have hpw2 : w.heap.size ≤ p2 := by have := HB.out.size; omega
                  rw [hp2]
                  rintro e r4 ⟨_, hgood, hb⟩
                  obtain ⟨rfl, hf⟩ := hgood HR1.out
                  have NF_ := Lib.hid (show Blk r4 p2 64 #[.int .i64 g.u, .int .i64 g.o.u, .int .i64 g.o.e, .int .i64 g.o.k, .int .i64 g.o.i, .int .i64 g.o.n, .bool g.a] by
                    have hf' : Blk r4 p2 64 #[.int .i64 1, .int .i64 (Or.decO q).u, .int .i64 (Or.decO q).e, .int .i64 (Or.decO q).k, .int .i64 (Or.decO q).i, .int .i64 (Or.decO q).n, .bool true] := hf
                    rw [HR2.out] at hf'
                    rw [HGU.out, HGA.out]; exact hf')
                  have hb2 : Below r3.heap.size r3 r4 := by rw [hp2]; exact hb
                  clear hb hf hgood
                  have hb := hb2
                  clear hb2
                  have TF_ := Lib.hid (HF.out.low hb)
                  have TX_ := Lib.hid (HX.out.low hb)
                  have TB_ := Lib.hid (HB.out.trans (hb.mono HB.out.size))
                  clear ltF_ x0_ x1_ x2_ x3_ x4_ ltX_
                  clear HB HF HX
                  have HF := Lib.hid TF_.out
                  have HX := Lib.hid TX_.out
                  have HB := Lib.hid TB_.out
                  clear TB_ TF_ TX_
                  clear hb HF hp2 HQO
                  have HF := Lib.hid NF_.out
                  clear NF_
                  have ltF_ := HF.out.lt
                  have x0_ : r4.cell? ⟨bx, 0, none⟩ = some (.int .i64 1) := HX.out.cell 0
                  have x1_ : r4.cell? ⟨bx, 1, none⟩ = some (.int .i64 (1 + n)) := HX.out.cell 1
                  have x2_ : r4.cell? ⟨bx, 2, none⟩ = some (.int .i64 1) := HX.out.cell 2
                  have x3_ : r4.cell? ⟨bx, 3, none⟩ = some (.int .i64 4) := HX.out.cell 3
                  have x4_ : r4.cell? ⟨bx, 4, none⟩ = some (.int .i64 2) := HX.out.cell 4
                  have ltX_ := HX.out.lt
                  go_wp2_with fail
                  refine (latest_any p2 g _ HF.out).mono ?_
                  rintro e r5 ⟨rfl, hb⟩
                  have TF_ := Lib.hid (HF.out.low hb)
                  have TX_ := Lib.hid (HX.out.low hb)
                  have TB_ := Lib.hid (HB.out.trans (hb.mono HB.out.size))
                  clear ltF_ x0_ x1_ x2_ x3_ x4_ ltX_
                  clear HB HF HX
                  have HF := Lib.hid TF_.out
                  have HX := Lib.hid TX_.out
                  have HB := Lib.hid TB_.out
                  clear TB_ TF_ TX_
                  clear hb
                  have ltF_ := HF.out.lt
                  have x0_ : r5.cell? ⟨bx, 0, none⟩ = some (.int .i64 1) := HX.out.cell 0
                  have x1_ : r5.cell? ⟨bx, 1, none⟩ = some (.int .i64 (1 + n)) := HX.out.cell 1
                  have x2_ : r5.cell? ⟨bx, 2, none⟩ = some (.int .i64 1) := HX.out.cell 2
                  have x3_ : r5.cell? ⟨bx, 3, none⟩ = some (.int .i64 4) := HX.out.cell 3
                  have x4_ : r5.cell? ⟨bx, 4, none⟩ = some (.int .i64 2) := HX.out.cell 4
                  have ltX_ := HX.out.lt
                  have y1 : g.o.e = f.o.e := by rw [← HMX2.out]; omega
                  have hga := HGA.out
                  go_wp2
                  go_roundw
                  case rel => exact ⟨k + 1, g, p2, by omega, by go_num, congrArg _ y1.symm, rfl, by first | exact hpw2 | omega, ⟨HF.out.alloc _, HGU.out, HIG.out, HG64.out, HGM.out, HB.out.alloc HB.out.size _⟩⟩
                  case measure => simp [intOf]; omega
                | true =>
                  have hfe : f.o.e < 1 + n := of_decide_eq_true hRA
                  clear hRA
                  obtain ⟨ad3, hA3, hc3⟩ := (HRS.out.low HB.out) k (.bool true) HRN.out
                  subst hA3
                  obtain ⟨q, hq⟩ : ∃ q, Or.put g.o = q := ⟨_, rfl⟩
                  have HMQ := Lib.hid (show Or.marsh g = q by rw [Or.marsh_put HIG.out, hq])
                  obtain ⟨hr1, hr2⟩ := Or.rest_put (u := 1) (HIG.out.2 HGA.out) HG64.out HGO.out
                  rw [hq] at hr1 hr2
                  have HR1 := Lib.hid hr1
                  have HR2 := Lib.hid hr2
                  have HQB := Lib.hid (show Wr.Bts q from hq ▸ Or.put_bts g.o)
                  have hqp : 0 < q.length := hq ▸ Or.put_pos (HIG.out.2 HGA.out)
                  have HQL := Lib.hid (show q.length ≤ 50 from hq ▸ Or.put_len HG64.out)
                  clear hq hr1 hr2
                  go_wp2_with fail
                  refine (marshal_any p g _ HF.out HG64.out).mono ?_
                  rw [HMQ.out]
                  rintro e r3 ⟨Aq, cq, rfl, hq, hb⟩
                  have TF_ := Lib.hid (HF.out.low hb)
                  have TX_ := Lib.hid (HX.out.low hb)
                  have TB_ := Lib.hid (HB.out.trans (hb.mono HB.out.size))
                  clear ltF_ x0_ x1_ x2_ x3_ x4_ ltX_
                  clear HB HF HX
                  have HF := Lib.hid TF_.out
                  have HX := Lib.hid TX_.out
                  have HB := Lib.hid TB_.out
                  clear TB_ TF_ TX_
                  have HQO := Lib.hid (Rd.of_own hq)
                  clear hq
                  clear hb
                  have ltF_ := HF.out.lt
                  have x0_ : r3.cell? ⟨bx, 0, none⟩ = some (.int .i64 1) := HX.out.cell 0
                  have x1_ : r3.cell? ⟨bx, 1, none⟩ = some (.int .i64 (1 + n)) := HX.out.cell 1
                  have x2_ : r3.cell? ⟨bx, 2, none⟩ = some (.int .i64 1) := HX.out.cell 2
                  have x3_ : r3.cell? ⟨bx, 3, none⟩ = some (.int .i64 4) := HX.out.cell 3
                  have x4_ : r3.cell? ⟨bx, 4, none⟩ = some (.int .i64 2) := HX.out.cell 4
                  have ltX_ := HX.out.lt
                  go_wp2_with fail
                  refine (restore_any 1 Aq q cq _ (by decide +kernel) hqp HQO.out HQB.out (by have := HQL.out; omega)).mono ?_
                  obtain ⟨p2, hp2⟩ : ∃ p2, r3.heap.size = p2 := ⟨_, rfl⟩
                  have hpw2 : w.heap.size ≤ p2 := by have := HB.out.size; omega
                  rw [hp2]
                  rintro e r4 ⟨_, hgood, hb⟩
                  obtain ⟨rfl, hf⟩ := hgood HR1.out
                  have NF_ := Lib.hid (show Blk r4 p2 64 #[.int .i64 g.u, .int .i64 g.o.u, .int .i64 g.o.e, .int .i64 g.o.k, .int .i64 g.o.i, .int .i64 g.o.n, .bool g.a] by
                    have hf' : Blk r4 p2 64 #[.int .i64 1, .int .i64 (Or.decO q).u, .int .i64 (Or.decO q).e, .int .i64 (Or.decO q).k, .int .i64 (Or.decO q).i, .int .i64 (Or.decO q).n, .bool true] := hf
                    rw [HR2.out] at hf'
                    rw [HGU.out, HGA.out]; exact hf')
                  have hb2 : Below r3.heap.size r3 r4 := by rw [hp2]; exact hb
                  clear hb hf hgood
                  have hb := hb2
                  clear hb2
                  have TF_ := Lib.hid (HF.out.low hb)
                  have TX_ := Lib.hid (HX.out.low hb)
                  have TB_ := Lib.hid (HB.out.trans (hb.mono HB.out.size))
                  clear ltF_ x0_ x1_ x2_ x3_ x4_ ltX_
                  clear HB HF HX
                  have HF := Lib.hid TF_.out
                  have HX := Lib.hid TX_.out
                  have HB := Lib.hid TB_.out
                  clear TB_ TF_ TX_
                  clear hb HF hp2 HQO
                  have HF := Lib.hid NF_.out
                  clear NF_
                  have ltF_ := HF.out.lt
                  have x0_ : r4.cell? ⟨bx, 0, none⟩ = some (.int .i64 1) := HX.out.cell 0
                  have x1_ : r4.cell? ⟨bx, 1, none⟩ = some (.int .i64 (1 + n)) := HX.out.cell 1
                  have x2_ : r4.cell? ⟨bx, 2, none⟩ = some (.int .i64 1) := HX.out.cell 2
                  have x3_ : r4.cell? ⟨bx, 3, none⟩ = some (.int .i64 4) := HX.out.cell 3
                  have x4_ : r4.cell? ⟨bx, 4, none⟩ = some (.int .i64 2) := HX.out.cell 4
                  have ltX_ := HX.out.lt
                  go_wp2_with fail
                  refine (latest_any p2 g _ HF.out).mono ?_
                  rintro e r5 ⟨rfl, hb⟩
                  have TF_ := Lib.hid (HF.out.low hb)
                  have TX_ := Lib.hid (HX.out.low hb)
                  have TB_ := Lib.hid (HB.out.trans (hb.mono HB.out.size))
                  clear ltF_ x0_ x1_ x2_ x3_ x4_ ltX_
                  clear HB HF HX
                  have HF := Lib.hid TF_.out
                  have HX := Lib.hid TX_.out
                  have HB := Lib.hid TB_.out
                  clear TB_ TF_ TX_
                  clear hb
                  have ltF_ := HF.out.lt
                  have x0_ : r5.cell? ⟨bx, 0, none⟩ = some (.int .i64 1) := HX.out.cell 0
                  have x1_ : r5.cell? ⟨bx, 1, none⟩ = some (.int .i64 (1 + n)) := HX.out.cell 1
                  have x2_ : r5.cell? ⟨bx, 2, none⟩ = some (.int .i64 1) := HX.out.cell 2
                  have x3_ : r5.cell? ⟨bx, 3, none⟩ = some (.int .i64 4) := HX.out.cell 3
                  have x4_ : r5.cell? ⟨bx, 4, none⟩ = some (.int .i64 2) := HX.out.cell 4
                  have ltX_ := HX.out.lt
                  have hgo := HTK.out (by trivial)
                  rw [← HOO.out] at hgo
                  have y0 : g.o.u = 1 := by rw [hgo]; rfl
                  have y1 : g.o.e = 1 + n := by rw [hgo]; rfl
                  have y2 : g.o.k = 1 := by rw [hgo]; rfl
                  have y3 : g.o.i = 4 := by rw [hgo]; rfl
                  have y4 : g.o.n = 2 := by rw [hgo]; rfl
                  clear hgo
                  have hga := HGA.out
                  go_wp2
                  go_roundw
                  case rel => exact ⟨k + 1, g, p2, by omega, by go_num, congrArg _ y1.symm, rfl, by first | exact hpw2 | omega, ⟨HF.out.alloc _, HGU.out, HIG.out, HG64.out, HGM.out, HB.out.alloc HB.out.size _⟩⟩
                  case measure => simp [intOf]; omega
            | false =>
              have HRN := Lib.hid (show (rs.map Value.bool)[k]? = some (.bool false) by rw [List.getElem?_map, List.getElem?_eq_getElem hrl, hrb]; rfl)
              clear hrb
              · skip
                have ltF_ := HF.out.lt
                go_wp2_with fail
                refine (going_any (1 + n) _).mono ?_
                rintro e r0 ⟨rfl, hb⟩
                have TF_ := Lib.hid (HF.out.low hb)
                have TB_ := Lib.hid (HB.out.trans (hb.mono HB.out.size))
                clear ltF_
                clear HB HF
                have HF := Lib.hid TF_.out
                have HB := Lib.hid TB_.out
                clear TB_ TF_
                clear hb
                have ltF_ := HF.out.lt
                go_wp2_with fail
                obtain ⟨bx, hbk_⟩ : ∃ b, r0.heap.size = b := ⟨_, rfl⟩
                have NX_ := Lib.hid (Blk.new' r0 29 #[.int .i64 1, .int .i64 (1 + n), .int .i64 1, .int .i64 4, .int .i64 2] bx hbk_)
                have oFX_ : p < bx := by have := HF.out.lt; omega
                have TF_ := Lib.hid ((HF.out.low ((Below.refl _ _).alloc (Nat.le_refl _) (.cells #[.int .i64 1, .int .i64 (1 + n), .int .i64 1, .int .i64 4, .int .i64 2] 29))))
                have TB_ := Lib.hid (HB.out.alloc HB.out.size (.cells #[.int .i64 1, .int .i64 (1 + n), .int .i64 1, .int .i64 4, .int .i64 2] 29))
                clear ltF_
                clear HB HF
                have HF := Lib.hid TF_.out
                have HB := Lib.hid TB_.out
                clear TB_ TF_
                try rw [hbk_]
                obtain ⟨r1, hw_⟩ : ∃ w', r0.alloc (.cells #[.int .i64 1, .int .i64 (1 + n), .int .i64 1, .int .i64 4, .int .i64 2] 29) = w' := ⟨_, rfl⟩
                rw [hw_] at NX_ HB HF ⊢
                have HX := Lib.hid NX_.out
                clear hw_ hbk_ NX_
                have ltF_ := HF.out.lt
                have x0_ : r1.cell? ⟨bx, 0, none⟩ = some (.int .i64 1) := HX.out.cell 0
                have x1_ : r1.cell? ⟨bx, 1, none⟩ = some (.int .i64 (1 + n)) := HX.out.cell 1
                have x2_ : r1.cell? ⟨bx, 2, none⟩ = some (.int .i64 1) := HX.out.cell 2
                have x3_ : r1.cell? ⟨bx, 3, none⟩ = some (.int .i64 4) := HX.out.cell 3
                have x4_ : r1.cell? ⟨bx, 4, none⟩ = some (.int .i64 2) := HX.out.cell 4
                have ltX_ := HX.out.lt
                obtain ⟨hv, ho64⟩ := Or.go_ok (e := 1 + n) (by omega)
                obtain ⟨a0, a1, a2, a3, a4⟩ := Or.acc_newest HI.out (o := (Or.go (1 + n))) hv HFU.out.symm
                have HIG := Lib.hid (HI.out.acc ((Or.go (1 + n))))
                have HG64 := Lib.hid (Or.acc64 HO64.out ho64)
                have HGU := Lib.hid ((Or.acc_u f ((Or.go (1 + n)))).trans HFU.out)
                have HGM := Lib.hid (HMI.out.acc (o := (Or.go (1 + n))) HFU.out.symm)
                obtain ⟨o, ho⟩ : ∃ o, (Or.go (1 + n)) = o := ⟨_, rfl⟩
                have HO1 := Lib.hid (show (1 : Int) = o.u ∧ 1 + n = o.e by rw [← ho]; exact ⟨rfl, rfl⟩)
                obtain ⟨g, hg⟩ : ∃ g, Or.acc f ((Or.go (1 + n))) = g := ⟨_, rfl⟩
                obtain ⟨ra, hra⟩ : ∃ b, Or.accB f ((Or.go (1 + n))) = b := ⟨_, rfl⟩
                have HAE := Lib.hid a0
                have HAB := Lib.hid hra
                have HGG := Lib.hid hg
                have hra2 : decide (f.o.e < o.e) = ra := by rw [← ho, ← a1]; exact hra
                have hmx : max f.o.e o.e = g.o.e := by rw [← hg, a2, ho]
                have hga : g.a = true := by rw [← hg]; exact a3
                have HTK := Lib.hid (show ra = true → g.o = o by intro h; rw [← hg, ← ho]; exact a4 (hra.trans h))
                rw [hg] at HIG HG64 HGU HGM
                have HGO := Lib.hid ((HGM.out hga).trans HGU.out)
                have HGA := Lib.hid hga
                have HOO := Lib.hid ho
                have HMX := Lib.hid hmx
                have HRA2 := Lib.hid hra2
                clear a0 a1 a2 a3 a4 hra hg hra2 hmx hga hv ho64 ho
                go_wp2_with fail
                refine (accept_any p f (Or.go (1 + n)) _ HF.out).mono ?_
                rw [HAE.out, HAB.out, HGG.out]
                rintro e r2 ⟨rfl, hf, hb⟩
                have TX_ := Lib.hid (HX.out.chg hb (by omega))
                have TB_ := Lib.hid (HB.out.trans (hb.below (B := w.heap.size) (fun k e => by omega) HB.out.size))
                clear ltF_ x0_ x1_ x2_ x3_ x4_ ltX_
                clear HB HX
                have HX := Lib.hid TX_.out
                have HB := Lib.hid TB_.out
                clear TB_ TX_
                have HF0 := Lib.hid HF.out
                clear HF
                have HF := Lib.hid (show Blk r2 p 64 #[.int .i64 g.u, .int .i64 g.o.u, .int .i64 g.o.e, .int .i64 g.o.k, .int .i64 g.o.i, .int .i64 g.o.n, .bool g.a] from hf)
                clear hf HF0
                clear hb
                have ltF_ := HF.out.lt
                have x0_ : r2.cell? ⟨bx, 0, none⟩ = some (.int .i64 1) := HX.out.cell 0
                have x1_ : r2.cell? ⟨bx, 1, none⟩ = some (.int .i64 (1 + n)) := HX.out.cell 1
                have x2_ : r2.cell? ⟨bx, 2, none⟩ = some (.int .i64 1) := HX.out.cell 2
                have x3_ : r2.cell? ⟨bx, 3, none⟩ = some (.int .i64 4) := HX.out.cell 3
                have x4_ : r2.cell? ⟨bx, 4, none⟩ = some (.int .i64 2) := HX.out.cell 4
                have ltX_ := HX.out.lt
                have hRA : decide (f.o.e < 1 + n) = ra := by have := HRA2.out; rw [← HO1.out.2] at this; exact this
                have HMX2 := Lib.hid (show max f.o.e (1 + n) = g.o.e by have := HMX.out; rw [← HO1.out.2] at this; exact this)
                cases ra with
                | false =>
                  have hfe : ¬ f.o.e < 1 + n := of_decide_eq_false hRA
                  clear hRA
                  obtain ⟨ad3, hA3, hc3⟩ := (HRS.out.low HB.out) k (.bool false) HRN.out
                  subst hA3
                  go_wp2_with fail
                  refine (latest_any p g _ HF.out).mono ?_
                  rintro e r5 ⟨rfl, hb⟩
                  have TF_ := Lib.hid (HF.out.low hb)
                  have TX_ := Lib.hid (HX.out.low hb)
                  have TB_ := Lib.hid (HB.out.trans (hb.mono HB.out.size))
                  clear ltF_ x0_ x1_ x2_ x3_ x4_ ltX_
                  clear HB HF HX
                  have HF := Lib.hid TF_.out
                  have HX := Lib.hid TX_.out
                  have HB := Lib.hid TB_.out
                  clear TB_ TF_ TX_
                  clear hb
                  have ltF_ := HF.out.lt
                  have x0_ : r5.cell? ⟨bx, 0, none⟩ = some (.int .i64 1) := HX.out.cell 0
                  have x1_ : r5.cell? ⟨bx, 1, none⟩ = some (.int .i64 (1 + n)) := HX.out.cell 1
                  have x2_ : r5.cell? ⟨bx, 2, none⟩ = some (.int .i64 1) := HX.out.cell 2
                  have x3_ : r5.cell? ⟨bx, 3, none⟩ = some (.int .i64 4) := HX.out.cell 3
                  have x4_ : r5.cell? ⟨bx, 4, none⟩ = some (.int .i64 2) := HX.out.cell 4
                  have ltX_ := HX.out.lt
                  have y1 : g.o.e = f.o.e := by rw [← HMX2.out]; omega
                  have hga := HGA.out
                  go_wp2
                  go_roundw
                  case rel => exact ⟨k + 1, g, p, by omega, by go_num, congrArg _ y1.symm, rfl, by first | exact hpw' | omega, ⟨HF.out.alloc _, HGU.out, HIG.out, HG64.out, HGM.out, HB.out.alloc HB.out.size _⟩⟩
                  case measure => simp [intOf]; omega
                | true =>
                  have hfe : f.o.e < 1 + n := of_decide_eq_true hRA
                  clear hRA
                  obtain ⟨ad3, hA3, hc3⟩ := (HRS.out.low HB.out) k (.bool false) HRN.out
                  subst hA3
                  go_wp2_with fail
                  refine (latest_any p g _ HF.out).mono ?_
                  rintro e r5 ⟨rfl, hb⟩
                  have TF_ := Lib.hid (HF.out.low hb)
                  have TX_ := Lib.hid (HX.out.low hb)
                  have TB_ := Lib.hid (HB.out.trans (hb.mono HB.out.size))
                  clear ltF_ x0_ x1_ x2_ x3_ x4_ ltX_
                  clear HB HF HX
                  have HF := Lib.hid TF_.out
                  have HX := Lib.hid TX_.out
                  have HB := Lib.hid TB_.out
                  clear TB_ TF_ TX_
                  clear hb
                  have ltF_ := HF.out.lt
                  have x0_ : r5.cell? ⟨bx, 0, none⟩ = some (.int .i64 1) := HX.out.cell 0
                  have x1_ : r5.cell? ⟨bx, 1, none⟩ = some (.int .i64 (1 + n)) := HX.out.cell 1
                  have x2_ : r5.cell? ⟨bx, 2, none⟩ = some (.int .i64 1) := HX.out.cell 2
                  have x3_ : r5.cell? ⟨bx, 3, none⟩ = some (.int .i64 4) := HX.out.cell 3
                  have x4_ : r5.cell? ⟨bx, 4, none⟩ = some (.int .i64 2) := HX.out.cell 4
                  have ltX_ := HX.out.lt
                  have hgo := HTK.out (by trivial)
                  rw [← HOO.out] at hgo
                  have y0 : g.o.u = 1 := by rw [hgo]; rfl
                  have y1 : g.o.e = 1 + n := by rw [hgo]; rfl
                  have y2 : g.o.k = 1 := by rw [hgo]; rfl
                  have y3 : g.o.i = 4 := by rw [hgo]; rfl
                  have y4 : g.o.n = 2 := by rw [hgo]; rfl
                  clear hgo
                  have hga := HGA.out
                  go_wp2
                  go_roundw
                  case rel => exact ⟨k + 1, g, p, by omega, by go_num, congrArg _ y1.symm, rfl, by first | exact hpw' | omega, ⟨HF.out.alloc _, HGU.out, HIG.out, HG64.out, HGM.out, HB.out.alloc HB.out.size _⟩⟩
                  case measure => simp [intOf]; omega
          · skip
            · skip
              have ltF_ := HF.out.lt
              go_wp2_with fail
              refine (going_any (1 + n) _).mono ?_
              rintro e r0 ⟨rfl, hb⟩
              have TF_ := Lib.hid (HF.out.low hb)
              have TB_ := Lib.hid (HB.out.trans (hb.mono HB.out.size))
              clear ltF_
              clear HB HF
              have HF := Lib.hid TF_.out
              have HB := Lib.hid TB_.out
              clear TB_ TF_
              clear hb
              have ltF_ := HF.out.lt
              go_wp2_with fail
              obtain ⟨bx, hbk_⟩ : ∃ b, r0.heap.size = b := ⟨_, rfl⟩
              have NX_ := Lib.hid (Blk.new' r0 29 #[.int .i64 1, .int .i64 (1 + n), .int .i64 1, .int .i64 4, .int .i64 2] bx hbk_)
              have oFX_ : p < bx := by have := HF.out.lt; omega
              have TF_ := Lib.hid ((HF.out.low ((Below.refl _ _).alloc (Nat.le_refl _) (.cells #[.int .i64 1, .int .i64 (1 + n), .int .i64 1, .int .i64 4, .int .i64 2] 29))))
              have TB_ := Lib.hid (HB.out.alloc HB.out.size (.cells #[.int .i64 1, .int .i64 (1 + n), .int .i64 1, .int .i64 4, .int .i64 2] 29))
              clear ltF_
              clear HB HF
              have HF := Lib.hid TF_.out
              have HB := Lib.hid TB_.out
              clear TB_ TF_
              try rw [hbk_]
              obtain ⟨r1, hw_⟩ : ∃ w', r0.alloc (.cells #[.int .i64 1, .int .i64 (1 + n), .int .i64 1, .int .i64 4, .int .i64 2] 29) = w' := ⟨_, rfl⟩
              rw [hw_] at NX_ HB HF ⊢
              have HX := Lib.hid NX_.out
              clear hw_ hbk_ NX_
              have ltF_ := HF.out.lt
              have x0_ : r1.cell? ⟨bx, 0, none⟩ = some (.int .i64 1) := HX.out.cell 0
              have x1_ : r1.cell? ⟨bx, 1, none⟩ = some (.int .i64 (1 + n)) := HX.out.cell 1
              have x2_ : r1.cell? ⟨bx, 2, none⟩ = some (.int .i64 1) := HX.out.cell 2
              have x3_ : r1.cell? ⟨bx, 3, none⟩ = some (.int .i64 4) := HX.out.cell 3
              have x4_ : r1.cell? ⟨bx, 4, none⟩ = some (.int .i64 2) := HX.out.cell 4
              have ltX_ := HX.out.lt
              obtain ⟨hv, ho64⟩ := Or.go_ok (e := 1 + n) (by omega)
              obtain ⟨a0, a1, a2, a3, a4⟩ := Or.acc_newest HI.out (o := (Or.go (1 + n))) hv HFU.out.symm
              have HIG := Lib.hid (HI.out.acc ((Or.go (1 + n))))
              have HG64 := Lib.hid (Or.acc64 HO64.out ho64)
              have HGU := Lib.hid ((Or.acc_u f ((Or.go (1 + n)))).trans HFU.out)
              have HGM := Lib.hid (HMI.out.acc (o := (Or.go (1 + n))) HFU.out.symm)
              obtain ⟨o, ho⟩ : ∃ o, (Or.go (1 + n)) = o := ⟨_, rfl⟩
              have HO1 := Lib.hid (show (1 : Int) = o.u ∧ 1 + n = o.e by rw [← ho]; exact ⟨rfl, rfl⟩)
              obtain ⟨g, hg⟩ : ∃ g, Or.acc f ((Or.go (1 + n))) = g := ⟨_, rfl⟩
              obtain ⟨ra, hra⟩ : ∃ b, Or.accB f ((Or.go (1 + n))) = b := ⟨_, rfl⟩
              have HAE := Lib.hid a0
              have HAB := Lib.hid hra
              have HGG := Lib.hid hg
              have hra2 : decide (f.o.e < o.e) = ra := by rw [← ho, ← a1]; exact hra
              have hmx : max f.o.e o.e = g.o.e := by rw [← hg, a2, ho]
              have hga : g.a = true := by rw [← hg]; exact a3
              have HTK := Lib.hid (show ra = true → g.o = o by intro h; rw [← hg, ← ho]; exact a4 (hra.trans h))
              rw [hg] at HIG HG64 HGU HGM
              have HGO := Lib.hid ((HGM.out hga).trans HGU.out)
              have HGA := Lib.hid hga
              have HOO := Lib.hid ho
              have HMX := Lib.hid hmx
              have HRA2 := Lib.hid hra2
              clear a0 a1 a2 a3 a4 hra hg hra2 hmx hga hv ho64 ho
              go_wp2_with fail
              refine (accept_any p f (Or.go (1 + n)) _ HF.out).mono ?_
              rw [HAE.out, HAB.out, HGG.out]
              rintro e r2 ⟨rfl, hf, hb⟩
              have TX_ := Lib.hid (HX.out.chg hb (by omega))
              have TB_ := Lib.hid (HB.out.trans (hb.below (B := w.heap.size) (fun k e => by omega) HB.out.size))
              clear ltF_ x0_ x1_ x2_ x3_ x4_ ltX_
              clear HB HX
              have HX := Lib.hid TX_.out
              have HB := Lib.hid TB_.out
              clear TB_ TX_
              have HF0 := Lib.hid HF.out
              clear HF
              have HF := Lib.hid (show Blk r2 p 64 #[.int .i64 g.u, .int .i64 g.o.u, .int .i64 g.o.e, .int .i64 g.o.k, .int .i64 g.o.i, .int .i64 g.o.n, .bool g.a] from hf)
              clear hf HF0
              clear hb
              have ltF_ := HF.out.lt
              have x0_ : r2.cell? ⟨bx, 0, none⟩ = some (.int .i64 1) := HX.out.cell 0
              have x1_ : r2.cell? ⟨bx, 1, none⟩ = some (.int .i64 (1 + n)) := HX.out.cell 1
              have x2_ : r2.cell? ⟨bx, 2, none⟩ = some (.int .i64 1) := HX.out.cell 2
              have x3_ : r2.cell? ⟨bx, 3, none⟩ = some (.int .i64 4) := HX.out.cell 3
              have x4_ : r2.cell? ⟨bx, 4, none⟩ = some (.int .i64 2) := HX.out.cell 4
              have ltX_ := HX.out.lt
              have hRA : decide (f.o.e < 1 + n) = ra := by have := HRA2.out; rw [← HO1.out.2] at this; exact this
              have HMX2 := Lib.hid (show max f.o.e (1 + n) = g.o.e by have := HMX.out; rw [← HO1.out.2] at this; exact this)
              cases ra with
              | false =>
                have hfe : ¬ f.o.e < 1 + n := of_decide_eq_false hRA
                clear hRA
                go_wp2_with fail
                refine (latest_any p g _ HF.out).mono ?_
                rintro e r5 ⟨rfl, hb⟩
                have TF_ := Lib.hid (HF.out.low hb)
                have TX_ := Lib.hid (HX.out.low hb)
                have TB_ := Lib.hid (HB.out.trans (hb.mono HB.out.size))
                clear ltF_ x0_ x1_ x2_ x3_ x4_ ltX_
                clear HB HF HX
                have HF := Lib.hid TF_.out
                have HX := Lib.hid TX_.out
                have HB := Lib.hid TB_.out
                clear TB_ TF_ TX_
                clear hb
                have ltF_ := HF.out.lt
                have x0_ : r5.cell? ⟨bx, 0, none⟩ = some (.int .i64 1) := HX.out.cell 0
                have x1_ : r5.cell? ⟨bx, 1, none⟩ = some (.int .i64 (1 + n)) := HX.out.cell 1
                have x2_ : r5.cell? ⟨bx, 2, none⟩ = some (.int .i64 1) := HX.out.cell 2
                have x3_ : r5.cell? ⟨bx, 3, none⟩ = some (.int .i64 4) := HX.out.cell 3
                have x4_ : r5.cell? ⟨bx, 4, none⟩ = some (.int .i64 2) := HX.out.cell 4
                have ltX_ := HX.out.lt
                have y1 : g.o.e = f.o.e := by rw [← HMX2.out]; omega
                have hga := HGA.out
                go_wp2
                go_roundw
                case rel => exact ⟨k + 1, g, p, by omega, by go_num, congrArg _ y1.symm, rfl, by first | exact hpw' | omega, ⟨HF.out.alloc _, HGU.out, HIG.out, HG64.out, HGM.out, HB.out.alloc HB.out.size _⟩⟩
                case measure => simp [intOf]; omega
              | true =>
                have hfe : f.o.e < 1 + n := of_decide_eq_true hRA
                clear hRA
                go_wp2_with fail
                refine (latest_any p g _ HF.out).mono ?_
                rintro e r5 ⟨rfl, hb⟩
                have TF_ := Lib.hid (HF.out.low hb)
                have TX_ := Lib.hid (HX.out.low hb)
                have TB_ := Lib.hid (HB.out.trans (hb.mono HB.out.size))
                clear ltF_ x0_ x1_ x2_ x3_ x4_ ltX_
                clear HB HF HX
                have HF := Lib.hid TF_.out
                have HX := Lib.hid TX_.out
                have HB := Lib.hid TB_.out
                clear TB_ TF_ TX_
                clear hb
                have ltF_ := HF.out.lt
                have x0_ : r5.cell? ⟨bx, 0, none⟩ = some (.int .i64 1) := HX.out.cell 0
                have x1_ : r5.cell? ⟨bx, 1, none⟩ = some (.int .i64 (1 + n)) := HX.out.cell 1
                have x2_ : r5.cell? ⟨bx, 2, none⟩ = some (.int .i64 1) := HX.out.cell 2
                have x3_ : r5.cell? ⟨bx, 3, none⟩ = some (.int .i64 4) := HX.out.cell 3
                have x4_ : r5.cell? ⟨bx, 4, none⟩ = some (.int .i64 2) := HX.out.cell 4
                have ltX_ := HX.out.lt
                have hgo := HTK.out (by trivial)
                rw [← HOO.out] at hgo
                have y0 : g.o.u = 1 := by rw [hgo]; rfl
                have y1 : g.o.e = 1 + n := by rw [hgo]; rfl
                have y2 : g.o.k = 1 := by rw [hgo]; rfl
                have y3 : g.o.i = 4 := by rw [hgo]; rfl
                have y4 : g.o.n = 2 := by rw [hgo]; rfl
                clear hgo
                have hga := HGA.out
                go_wp2
                go_roundw
                case rel => exact ⟨k + 1, g, p, by omega, by go_num, congrArg _ y1.symm, rfl, by first | exact hpw' | omega, ⟨HF.out.alloc _, HGU.out, HIG.out, HG64.out, HGM.out, HB.out.alloc HB.out.size _⟩⟩
                case measure => simp [intOf]; omega
      · go_wp2
        go_ret
        exact ⟨rfl, HB.out⟩
  · go_enter Try.func7, Try.ntmps7
    go_wp2_with (go_at_call 9; refine (alive_any _).mono ?_; rintro e w0 ⟨rfl, hb⟩; have HB0 := Lib.hid hb; clear hb)
    go_ret
    exact ⟨rfl, HB0.out⟩
end Go.Proofs.Ytikbenngbaicoaa
