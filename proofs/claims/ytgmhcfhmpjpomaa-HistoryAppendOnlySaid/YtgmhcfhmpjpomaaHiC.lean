/- Layer 49: the walks of At. -/
import Derived.Test.YtgmhcfhmpjpomaaHiB
namespace Go.Proofs.Ytgmhcfhmpjpomaa
set_option linter.unusedSimpArgs false
set_option linter.unusedVariables false
open Go.RowKit

namespace Hi
/-- the record that was current at a tick -/
def cur (tick : Int) : List V → Option V
  | [] => none
  | a :: l => match cur tick l with
    | some x => some x
    | none => if a.t ≤ tick then some a else none
theorem cur_none {tick : Int} : ∀ {l : List V}, (∀ j, (h : j < l.length) → ¬ l[j].t ≤ tick) → cur tick l = none
  | [], _ => rfl
  | a :: l, h => by
    have ih := cur_none (tick := tick) (l := l) (fun j hj => h (j + 1) (by simpa using hj))
    unfold cur; rw [ih]; exact if_neg (h 0 (by simp))
theorem cur_hit {tick : Int} : ∀ {l : List V} (m : Nat) (hm : m < l.length), l[m].t ≤ tick → (∀ j, m < j → (h : j < l.length) → ¬ l[j].t ≤ tick) → cur tick l = some l[m]
  | a :: l, 0, _, h0, h => by
    have ih := cur_none (tick := tick) (l := l) (fun j hj => h (j + 1) (by omega) (by simpa using hj))
    unfold cur; rw [ih]; exact if_pos h0
  | a :: l, m + 1, hm, h0, h => by
    have ih := cur_hit (tick := tick) (l := l) m (by simpa using hm) h0 (fun j hj hl => h (j + 1) (by omega) (by simpa using hl))
    unfold cur; rw [ih]; rfl
def zero : V := ⟨0, 0, 0, 0, 0⟩
def atV (tick : Int) (l : List V) : V := (cur tick l).getD zero
def atB (tick : Int) (l : List V) : Bool := (cur tick l).isSome
/-- where a search from the end stands -/
def Down (l : List V) (tick : Int) (i : Value) : Prop :=
  (∃ m : Nat, m < l.length ∧ i = .int .i64 (m : Nat) ∧ ∀ j, m < j → (h : j < l.length) → ¬ l[j].t ≤ tick) ∨ (i = .int .i64 (-1) ∧ ∀ j, (h : j < l.length) → ¬ l[j].t ≤ tick)
theorem Down.next {l : List V} {tick : Int} {m : Nat} (hm : m < l.length) (h : ∀ j, m < j → (h : j < l.length) → ¬ l[j].t ≤ tick) (h0 : ¬ l[m].t ≤ tick) (i : Int) (hi : i = (m : Int) - 1) : Down l tick (.int .i64 i) := by
  subst hi
  have all : ∀ j, m ≤ j → (h : j < l.length) → ¬ l[j].t ≤ tick := fun j hj hl => by
    rcases Nat.lt_or_ge m j with h1 | h1
    · exact h j h1 hl
    · obtain rfl : j = m := by omega
      exact h0
  cases m with
  | zero => exact .inr ⟨rfl, fun j hj => all j (by omega) hj⟩
  | succ m => exact .inl ⟨m, by omega, by congr 1; omega, fun j hj hl => all j (by omega) hl⟩
end Hi

theorem store5v {w : World} {q : Nat} {t : TypeId} {cs : Array Value} (h : Blk w q t cs) (hc : cs.size = 5) (v0 v1 v2 v3 v4 : Value) :
    Blk (((((w.setCell ⟨q, 0, none⟩ v0).setCell ⟨q, 1, none⟩ v1).setCell ⟨q, 2, none⟩ v2).setCell ⟨q, 3, none⟩ v3).setCell ⟨q, 4, none⟩ v4) q t #[v0, v1, v2, v3, v4] ∧
    Chg (· = q) w (((((w.setCell ⟨q, 0, none⟩ v0).setCell ⟨q, 1, none⟩ v1).setCell ⟨q, 2, none⟩ v2).setCell ⟨q, 3, none⟩ v3).setCell ⟨q, 4, none⟩ v4) := by
  refine ⟨?_, ((((Chg.set1 w q 0 v0).trans (Chg.set1 _ q 1 v1) (fun _ _ h => h)).trans (Chg.set1 _ q 2 v2) (fun _ _ h => h)).trans (Chg.set1 _ q 3 v3) (fun _ _ h => h)).trans (Chg.set1 _ q 4 v4) (fun _ _ h => h)⟩
  obtain ⟨l⟩ := cs
  match l, hc with
  | [a, b, c, d, e], _ => exact ((((h.set_ 0 v0).set_ 1 v1).set_ 2 v2).set_ 3 v3).set_ 4 v4

set_option maxRecDepth 100000 in
set_option maxHeartbeats 1000000 in
theorem at_any (w : World) (B p : Nat) (g : Option Nat) (l : List Hi.V) (tick : Int) (h : ChAt w B p g l) (hl : l.length ≤ 10000) :
    Calls Try.prog 11 #[.pointer (some ⟨p, 0, none⟩), .int .i64 tick] w fun e w' => e = .returned (.tuple #[.agg #[.int .i64 (Hi.atV tick l).t, .int .i64 (Hi.atV tick l).e, .int .u64 (Hi.atV tick l).b, .int .u64 (Hi.atV tick l).d, .int .u64 (Hi.atV tick l).s], .bool (Hi.atB tick l)]) ∧ Below w.heap.size w w' := by
  obtain ⟨hB, A, c, hb, hown, hg⟩ := h
  have hz := hb.lt
  have h := Rd.of_own hown
  have c00 : w.cell? ⟨p, 0, none⟩ = some (.slice A l.length c) := hb.cell 0
  have HC := Lib.hid (hb.alloc (.cells #[.int .i64 0, .int .i64 0, .int .u64 0, .int .u64 0, .int .u64 0] 30))
  clear hb hown hg
  have HR := Lib.hid (h.alloc (.cells #[.int .i64 0, .int .i64 0, .int .u64 0, .int .u64 0, .int .u64 0] 30))
  have HQ := Lib.hid (Blk.new w 30 #[.int .i64 0, .int .i64 0, .int .u64 0, .int .u64 0, .int .u64 0])
  have HB := Lib.hid ((Below.refl w.heap.size w).alloc (Nat.le_refl _) (.cells #[.int .i64 0, .int .i64 0, .int .u64 0, .int .u64 0, .int .u64 0] 30))
  clear h
  obtain ⟨w0, hw0⟩ : ∃ w0, w.alloc (.cells #[.int .i64 0, .int .i64 0, .int .u64 0, .int .u64 0, .int .u64 0] 30) = w0 := ⟨_, rfl⟩
  rw [hw0] at HR HQ HB HC
  have HW := Lib.hid hw0
  clear hw0
  by_cases hl0 : l.length = 0
  · have hlm : ((l.length : Nat) : Int) - 1 = -1 := by omega
    clear hl0
    go_enter Try.func11, Try.ntmps11
    go_wp2_with fail
    rw [HW.out]
    clear c00
    have c0 : w0.cell? ⟨p, 0, none⟩ = some (.slice A l.length c) := HC.out.cell 0
    have z0 : w0.frozen? ⟨w.heap.size, 0, none⟩ = false := HQ.out.frozen 0
    have q0 : w0.cell? ⟨w.heap.size, 0, none⟩ = some (.int .i64 0) := HQ.out.cell 0
    have z1 : w0.frozen? ⟨w.heap.size, 1, none⟩ = false := HQ.out.frozen 1
    have q1 : w0.cell? ⟨w.heap.size, 1, none⟩ = some (.int .i64 0) := HQ.out.cell 1
    have z2 : w0.frozen? ⟨w.heap.size, 2, none⟩ = false := HQ.out.frozen 2
    have q2 : w0.cell? ⟨w.heap.size, 2, none⟩ = some (.int .u64 0) := HQ.out.cell 2
    have z3 : w0.frozen? ⟨w.heap.size, 3, none⟩ = false := HQ.out.frozen 3
    have q3 : w0.cell? ⟨w.heap.size, 3, none⟩ = some (.int .u64 0) := HQ.out.cell 3
    have z4 : w0.frozen? ⟨w.heap.size, 4, none⟩ = false := HQ.out.frozen 4
    have q4 : w0.cell? ⟨w.heap.size, 4, none⟩ = some (.int .u64 0) := HQ.out.cell 4
    go_loop [6] (fun i => Hi.Down l tick i) (fun i => (intOf i + 1).toNat)
    case atStart => exact .inr ⟨rfl, fun j h => by omega⟩
    case round =>
      rcases hrel with ⟨m, hm, rfl, hdn⟩ | ⟨rfl, hdn⟩
      · exfalso; omega
      · have HH := Lib.hid (show Hi.atV tick l = ⟨0, 0, 0, 0, 0⟩ ∧ Hi.atB tick l = false by
          have := Hi.cur_none (tick := tick) hdn
          unfold Hi.atV Hi.atB; rw [this]; exact ⟨rfl, rfl⟩)
        clear hdn
        have HST := Lib.hid (store5v HQ.out rfl (.int .i64 0) (.int .i64 0) (.int .u64 0) (.int .u64 0) (.int .u64 0))
        go_wp2_with fail
        have r0 := HST.out.1.cell 0
        have r1 := HST.out.1.cell 1
        have r2 := HST.out.1.cell 2
        have r3 := HST.out.1.cell 3
        have r4 := HST.out.1.cell 4
        simp only [List.getElem?_toArray, List.getElem?_cons_zero, List.getElem?_cons_succ] at r0 r1 r2 r3 r4
        rw [HH.out.1, HH.out.2]
        exact bodyPost_ret (v := .tuple #[.agg #[.int .i64 0, .int .i64 0, .int .u64 0, .int .u64 0, .int .u64 0], .bool false]) (by simp [results, Try.results11, go_sem, r0, r1, r2, r3, r4]) rfl ⟨rfl, HB.out.trans (HST.out.2.below (B := w.heap.size) (fun k e => by omega) HB.out.size)⟩
  · obtain ⟨n, hn⟩ : ∃ n, l.length = n + 1 := ⟨l.length - 1, by omega⟩
    have hlm : ((l.length : Nat) : Int) - 1 = (n : Int) := by omega
    have hn1 : n < l.length := by omega
    have hn2 : l.length ≤ n + 1 := by omega
    clear hl0 hn
    go_enter Try.func11, Try.ntmps11
    go_wp2_with fail
    rw [HW.out]
    clear c00
    have c0 : w0.cell? ⟨p, 0, none⟩ = some (.slice A l.length c) := HC.out.cell 0
    have z0 : w0.frozen? ⟨w.heap.size, 0, none⟩ = false := HQ.out.frozen 0
    have q0 : w0.cell? ⟨w.heap.size, 0, none⟩ = some (.int .i64 0) := HQ.out.cell 0
    have z1 : w0.frozen? ⟨w.heap.size, 1, none⟩ = false := HQ.out.frozen 1
    have q1 : w0.cell? ⟨w.heap.size, 1, none⟩ = some (.int .i64 0) := HQ.out.cell 1
    have z2 : w0.frozen? ⟨w.heap.size, 2, none⟩ = false := HQ.out.frozen 2
    have q2 : w0.cell? ⟨w.heap.size, 2, none⟩ = some (.int .u64 0) := HQ.out.cell 2
    have z3 : w0.frozen? ⟨w.heap.size, 3, none⟩ = false := HQ.out.frozen 3
    have q3 : w0.cell? ⟨w.heap.size, 3, none⟩ = some (.int .u64 0) := HQ.out.cell 3
    have z4 : w0.frozen? ⟨w.heap.size, 4, none⟩ = false := HQ.out.frozen 4
    have q4 : w0.cell? ⟨w.heap.size, 4, none⟩ = some (.int .u64 0) := HQ.out.cell 4
    go_loop [6] (fun i => Hi.Down l tick i) (fun i => (intOf i + 1).toNat)
    case atStart => exact .inl ⟨n, by omega, rfl, fun j h1 h => by omega⟩
    case round =>
      rcases hrel with ⟨m, hm, rfl, hdn⟩ | ⟨rfl, hdn⟩
      · obtain ⟨ad, bk, of_, hA, hadd, k0, k1, k2, k3, k4⟩ := rd_vals HR.out m hm
        obtain ⟨x, hx⟩ : ∃ x, l[m] = x := ⟨_, rfl⟩
        have HM := Lib.hid hdn
        rw [hx] at k0 k1 k2 k3 k4
        have HX := Lib.hid hx
        have hm' : (m : Int) < (l.length : Int) := by omega
        have hm0 : (0 : Int) ≤ (m : Int) := by omega
        subst hA
        clear hdn hx
        by_cases ht : x.t ≤ tick
        · have HH := Lib.hid (show Hi.atV tick l = x ∧ Hi.atB tick l = true by
            have := Hi.cur_hit (tick := tick) m hm (by rw [HX.out]; exact ht) HM.out
            unfold Hi.atV Hi.atB; rw [this, HX.out]; exact ⟨rfl, rfl⟩)
          have HST := Lib.hid (store5v HQ.out rfl (.int .i64 x.t) (.int .i64 x.e) (.int .u64 x.b) (.int .u64 x.d) (.int .u64 x.s))
          go_wp2_with fail
          have r0 := HST.out.1.cell 0
          have r1 := HST.out.1.cell 1
          have r2 := HST.out.1.cell 2
          have r3 := HST.out.1.cell 3
          have r4 := HST.out.1.cell 4
          simp only [List.getElem?_toArray, List.getElem?_cons_zero, List.getElem?_cons_succ] at r0 r1 r2 r3 r4
          rw [HH.out.1, HH.out.2]
          exact bodyPost_ret (v := .tuple #[.agg #[.int .i64 x.t, .int .i64 x.e, .int .u64 x.b, .int .u64 x.d, .int .u64 x.s], .bool true]) (by simp [results, Try.results11, go_sem, r0, r1, r2, r3, r4]) rfl ⟨rfl, HB.out.trans (HST.out.2.below (B := w.heap.size) (fun k e => by omega) HB.out.size)⟩
        · go_wp2_with fail
          go_round
          case rel => exact Hi.Down.next hm HM.out (by rw [HX.out]; exact ht) _ rfl
          case measure => simp [intOf] <;> omega
      · have HH := Lib.hid (show Hi.atV tick l = ⟨0, 0, 0, 0, 0⟩ ∧ Hi.atB tick l = false by
          have := Hi.cur_none (tick := tick) hdn
          unfold Hi.atV Hi.atB; rw [this]; exact ⟨rfl, rfl⟩)
        clear hdn
        have HST := Lib.hid (store5v HQ.out rfl (.int .i64 0) (.int .i64 0) (.int .u64 0) (.int .u64 0) (.int .u64 0))
        go_wp2_with fail
        have r0 := HST.out.1.cell 0
        have r1 := HST.out.1.cell 1
        have r2 := HST.out.1.cell 2
        have r3 := HST.out.1.cell 3
        have r4 := HST.out.1.cell 4
        simp only [List.getElem?_toArray, List.getElem?_cons_zero, List.getElem?_cons_succ] at r0 r1 r2 r3 r4
        rw [HH.out.1, HH.out.2]
        exact bodyPost_ret (v := .tuple #[.agg #[.int .i64 0, .int .i64 0, .int .u64 0, .int .u64 0, .int .u64 0], .bool false]) (by simp [results, Try.results11, go_sem, r0, r1, r2, r3, r4]) rfl ⟨rfl, HB.out.trans (HST.out.2.below (B := w.heap.size) (fun k e => by omega) HB.out.size)⟩

set_option maxRecDepth 100000 in
set_option maxHeartbeats 1000000 in
theorem rat_any (w : World) (A : Option Addr) (l : List Hi.V) (c : Nat) (tick : Int) (h : Rd w A (Hi.vals l)) (hl : l.length ≤ 10000) :
    Calls Try.prog 12 #[.slice A l.length c, .int .i64 tick] w fun e w' => e = .returned (.tuple #[.agg #[.int .i64 (Hi.atV tick l).t, .int .i64 (Hi.atV tick l).e, .int .u64 (Hi.atV tick l).b, .int .u64 (Hi.atV tick l).d, .int .u64 (Hi.atV tick l).s], .bool (Hi.atB tick l)]) ∧ Below w.heap.size w w' := by
  have HR := Lib.hid (h.alloc (.cells #[.int .i64 0, .int .i64 0, .int .u64 0, .int .u64 0, .int .u64 0] 33))
  have HQ := Lib.hid (Blk.new w 33 #[.int .i64 0, .int .i64 0, .int .u64 0, .int .u64 0, .int .u64 0])
  have HB := Lib.hid ((Below.refl w.heap.size w).alloc (Nat.le_refl _) (.cells #[.int .i64 0, .int .i64 0, .int .u64 0, .int .u64 0, .int .u64 0] 33))
  clear h
  obtain ⟨w0, hw0⟩ : ∃ w0, w.alloc (.cells #[.int .i64 0, .int .i64 0, .int .u64 0, .int .u64 0, .int .u64 0] 33) = w0 := ⟨_, rfl⟩
  rw [hw0] at HR HQ HB
  have HW := Lib.hid hw0
  clear hw0
  by_cases hl0 : l.length = 0
  · have hlm : ((l.length : Nat) : Int) - 1 = -1 := by omega
    clear hl0
    go_enter Try.func12, Try.ntmps12
    go_wp2_with fail
    rw [HW.out]
    have z0 : w0.frozen? ⟨w.heap.size, 0, none⟩ = false := HQ.out.frozen 0
    have q0 : w0.cell? ⟨w.heap.size, 0, none⟩ = some (.int .i64 0) := HQ.out.cell 0
    have z1 : w0.frozen? ⟨w.heap.size, 1, none⟩ = false := HQ.out.frozen 1
    have q1 : w0.cell? ⟨w.heap.size, 1, none⟩ = some (.int .i64 0) := HQ.out.cell 1
    have z2 : w0.frozen? ⟨w.heap.size, 2, none⟩ = false := HQ.out.frozen 2
    have q2 : w0.cell? ⟨w.heap.size, 2, none⟩ = some (.int .u64 0) := HQ.out.cell 2
    have z3 : w0.frozen? ⟨w.heap.size, 3, none⟩ = false := HQ.out.frozen 3
    have q3 : w0.cell? ⟨w.heap.size, 3, none⟩ = some (.int .u64 0) := HQ.out.cell 3
    have z4 : w0.frozen? ⟨w.heap.size, 4, none⟩ = false := HQ.out.frozen 4
    have q4 : w0.cell? ⟨w.heap.size, 4, none⟩ = some (.int .u64 0) := HQ.out.cell 4
    go_loop [6] (fun i => Hi.Down l tick i) (fun i => (intOf i + 1).toNat)
    case atStart => exact .inr ⟨rfl, fun j h => by omega⟩
    case round =>
      rcases hrel with ⟨m, hm, rfl, hdn⟩ | ⟨rfl, hdn⟩
      · exfalso; omega
      · have HH := Lib.hid (show Hi.atV tick l = ⟨0, 0, 0, 0, 0⟩ ∧ Hi.atB tick l = false by
          have := Hi.cur_none (tick := tick) hdn
          unfold Hi.atV Hi.atB; rw [this]; exact ⟨rfl, rfl⟩)
        clear hdn
        have HST := Lib.hid (store5v HQ.out rfl (.int .i64 0) (.int .i64 0) (.int .u64 0) (.int .u64 0) (.int .u64 0))
        go_wp2_with fail
        have r0 := HST.out.1.cell 0
        have r1 := HST.out.1.cell 1
        have r2 := HST.out.1.cell 2
        have r3 := HST.out.1.cell 3
        have r4 := HST.out.1.cell 4
        simp only [List.getElem?_toArray, List.getElem?_cons_zero, List.getElem?_cons_succ] at r0 r1 r2 r3 r4
        rw [HH.out.1, HH.out.2]
        exact bodyPost_ret (v := .tuple #[.agg #[.int .i64 0, .int .i64 0, .int .u64 0, .int .u64 0, .int .u64 0], .bool false]) (by simp [results, Try.results12, go_sem, r0, r1, r2, r3, r4]) rfl ⟨rfl, HB.out.trans (HST.out.2.below (B := w.heap.size) (fun k e => by omega) HB.out.size)⟩
  · obtain ⟨n, hn⟩ : ∃ n, l.length = n + 1 := ⟨l.length - 1, by omega⟩
    have hlm : ((l.length : Nat) : Int) - 1 = (n : Int) := by omega
    have hn1 : n < l.length := by omega
    have hn2 : l.length ≤ n + 1 := by omega
    clear hl0 hn
    go_enter Try.func12, Try.ntmps12
    go_wp2_with fail
    rw [HW.out]
    have z0 : w0.frozen? ⟨w.heap.size, 0, none⟩ = false := HQ.out.frozen 0
    have q0 : w0.cell? ⟨w.heap.size, 0, none⟩ = some (.int .i64 0) := HQ.out.cell 0
    have z1 : w0.frozen? ⟨w.heap.size, 1, none⟩ = false := HQ.out.frozen 1
    have q1 : w0.cell? ⟨w.heap.size, 1, none⟩ = some (.int .i64 0) := HQ.out.cell 1
    have z2 : w0.frozen? ⟨w.heap.size, 2, none⟩ = false := HQ.out.frozen 2
    have q2 : w0.cell? ⟨w.heap.size, 2, none⟩ = some (.int .u64 0) := HQ.out.cell 2
    have z3 : w0.frozen? ⟨w.heap.size, 3, none⟩ = false := HQ.out.frozen 3
    have q3 : w0.cell? ⟨w.heap.size, 3, none⟩ = some (.int .u64 0) := HQ.out.cell 3
    have z4 : w0.frozen? ⟨w.heap.size, 4, none⟩ = false := HQ.out.frozen 4
    have q4 : w0.cell? ⟨w.heap.size, 4, none⟩ = some (.int .u64 0) := HQ.out.cell 4
    go_loop [6] (fun i => Hi.Down l tick i) (fun i => (intOf i + 1).toNat)
    case atStart => exact .inl ⟨n, by omega, rfl, fun j h1 h => by omega⟩
    case round =>
      rcases hrel with ⟨m, hm, rfl, hdn⟩ | ⟨rfl, hdn⟩
      · obtain ⟨ad, bk, of_, hA, hadd, k0, k1, k2, k3, k4⟩ := rd_vals HR.out m hm
        obtain ⟨x, hx⟩ : ∃ x, l[m] = x := ⟨_, rfl⟩
        have HM := Lib.hid hdn
        rw [hx] at k0 k1 k2 k3 k4
        have HX := Lib.hid hx
        have hm' : (m : Int) < (l.length : Int) := by omega
        have hm0 : (0 : Int) ≤ (m : Int) := by omega
        subst hA
        clear hdn hx
        by_cases ht : x.t ≤ tick
        · have HH := Lib.hid (show Hi.atV tick l = x ∧ Hi.atB tick l = true by
            have := Hi.cur_hit (tick := tick) m hm (by rw [HX.out]; exact ht) HM.out
            unfold Hi.atV Hi.atB; rw [this, HX.out]; exact ⟨rfl, rfl⟩)
          have HST := Lib.hid (store5v HQ.out rfl (.int .i64 x.t) (.int .i64 x.e) (.int .u64 x.b) (.int .u64 x.d) (.int .u64 x.s))
          go_wp2_with fail
          have r0 := HST.out.1.cell 0
          have r1 := HST.out.1.cell 1
          have r2 := HST.out.1.cell 2
          have r3 := HST.out.1.cell 3
          have r4 := HST.out.1.cell 4
          simp only [List.getElem?_toArray, List.getElem?_cons_zero, List.getElem?_cons_succ] at r0 r1 r2 r3 r4
          rw [HH.out.1, HH.out.2]
          exact bodyPost_ret (v := .tuple #[.agg #[.int .i64 x.t, .int .i64 x.e, .int .u64 x.b, .int .u64 x.d, .int .u64 x.s], .bool true]) (by simp [results, Try.results12, go_sem, r0, r1, r2, r3, r4]) rfl ⟨rfl, HB.out.trans (HST.out.2.below (B := w.heap.size) (fun k e => by omega) HB.out.size)⟩
        · go_wp2_with fail
          go_round
          case rel => exact Hi.Down.next hm HM.out (by rw [HX.out]; exact ht) _ rfl
          case measure => simp [intOf] <;> omega
      · have HH := Lib.hid (show Hi.atV tick l = ⟨0, 0, 0, 0, 0⟩ ∧ Hi.atB tick l = false by
          have := Hi.cur_none (tick := tick) hdn
          unfold Hi.atV Hi.atB; rw [this]; exact ⟨rfl, rfl⟩)
        clear hdn
        have HST := Lib.hid (store5v HQ.out rfl (.int .i64 0) (.int .i64 0) (.int .u64 0) (.int .u64 0) (.int .u64 0))
        go_wp2_with fail
        have r0 := HST.out.1.cell 0
        have r1 := HST.out.1.cell 1
        have r2 := HST.out.1.cell 2
        have r3 := HST.out.1.cell 3
        have r4 := HST.out.1.cell 4
        simp only [List.getElem?_toArray, List.getElem?_cons_zero, List.getElem?_cons_succ] at r0 r1 r2 r3 r4
        rw [HH.out.1, HH.out.2]
        exact bodyPost_ret (v := .tuple #[.agg #[.int .i64 0, .int .i64 0, .int .u64 0, .int .u64 0, .int .u64 0], .bool false]) (by simp [results, Try.results12, go_sem, r0, r1, r2, r3, r4]) rfl ⟨rfl, HB.out.trans (HST.out.2.below (B := w.heap.size) (fun k e => by omega) HB.out.size)⟩

end Go.Proofs.Ytgmhcfhmpjpomaa
