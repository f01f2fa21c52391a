import Derived.Test.YtodhpooddmeghaaRgD
import Derived.Lib.SliceRun
/- Layer 9: From, To, Verify, and the reference's distances. -/
namespace Go.Proofs.Ytodhpooddmeghaa
set_option linter.unusedSimpArgs false
set_option linter.unusedVariables false
open Go.RowKit

namespace Rg
theorem wok (E : List Ed) (ts : List Int) : WOk E.length 1048576 (tts E.length ts) := ⟨tts_len _ _, fun i hi => by rw [tts_ix _ hi]; exact tt_bd ts i⟩
theorem nk {N : Nat} (h : N ≤ 12) : (N : Int) * (N * 1048576 + 1) ≤ 8796093022208 := by
  have h1 : (N : Int) * 1048576 + 1 ≤ 12582913 := by omega
  have h2 : (N : Int) * (N * 1048576 + 1) ≤ N * 12582913 := Int.mul_le_mul_of_nonneg_left h1 (by omega)
  omega
theorem eq_all {l l' : List Int} {k : Nat} (h : l.take k = l'.take k) (h1 : l.length ≤ k) (h2 : l'.length ≤ k) : l = l' := by
  rwa [List.take_of_length_le h1, List.take_of_length_le h2] at h
/-- arcs of a graph with the given travel times -/
abbrev arcT (N : Nat) (E : List Ed) (ts : List Int) (fwd : Bool) : Sp.Arcs := arcs N E (tts E.length ts) fwd
theorem arcT_ok {N : Nat} {E : List Ed} (ts : List Int) (fwd : Bool) (hE : EOk N E) : (arcT N E ts fwd).Ok 1048576 := arcs_ok hE (wok E ts)
end Rg
namespace Rg
theorem wt_lt {N : Nat} {E : List Ed} {ts : List Int} {fwd : Bool} {j : Nat} (h : j < E.length) : (arcT N E ts fwd).wt j = tt ts j := tts_ix ts h
end Rg
namespace Rg
theorem rlx_yes {N : Nat} {E : List Ed} {ts d : List Int} {j : Nat} (hj : j < E.length) (hf : E[j].f < d.length) (ht : E[j].t < d.length) (h : tt ts j < 4611686018427387904 ∧ Sp.ix d E[j].f < 4611686018427387904 ∧ Sp.ix d E[j].f + tt ts j < Sp.ix d E[j].t) : Sp.rlx (arcT N E ts true) d j = d.set E[j].t (d[E[j].f] + tt ts j) := by
  have e1 : (arcT N E ts true).s j = E[j].f := arc_s hj
  have e2 : (arcT N E ts true).t j = E[j].t := arc_t hj
  unfold Sp.rlx
  rw [e1, e2, wt_lt hj, if_pos h, Sp.ix_get hf]
theorem rlx_no {N : Nat} {E : List Ed} {ts d : List Int} {j : Nat} (hj : j < E.length) (hf : E[j].f < d.length) (ht : E[j].t < d.length) (h : ¬ (tt ts j < 4611686018427387904 ∧ Sp.ix d E[j].f < 4611686018427387904 ∧ Sp.ix d E[j].f + tt ts j < Sp.ix d E[j].t)) : Sp.rlx (arcT N E ts true) d j = d := by
  have e1 : (arcT N E ts true).s j = E[j].f := arc_s hj
  have e2 : (arcT N E ts true).t j = E[j].t := arc_t hj
  unfold Sp.rlx
  rw [e1, e2, wt_lt hj, if_neg h]
theorem init1_at {N : Nat} {d : List Int} {e : Int} {u : Nat} (h : e = u) (hu : u < N) : Sp.init1 N d e = d.set u 0 := by
  subst h; unfold Sp.init1; rw [if_pos (by omega)]; rfl
theorem init1_no {N : Nat} {d : List Int} {e : Int} (h : ¬ (0 ≤ e ∧ e < N)) : Sp.init1 N d e = d := by unfold Sp.init1; rw [if_neg h]
end Rg
end Go.Proofs.Ytodhpooddmeghaa
namespace Go.Proofs.Ytodhpooddmeghaa
set_option linter.unusedSimpArgs false
set_option linter.unusedVariables false
open Go.RowKit

namespace Fw
theorem b_nilS {P : Program} {t e : TypeId} {x y : Operand} {A : Option Addr} {n c n' c' : Nat} (h : P.underlying t = some (.slice e)) : Bin P .eql t x y (.slice A n c) (.slice none n' c') (.bool A.isNone) := fun w => by
  have g : (eqGuard .eql t x y (.slice A n c) (.slice none n' c')).run P w = .ok () w := rfl
  rw [Sem.run_bind, g]; simp only [Result.andThen_ok]; exact Lib.run_eql_slice_nil w _ _ A n c n' c' h
end Fw
namespace Rg
theorem one_ints {k : IntKind} (l : List Int) : ∀ u ∈ l.map (Value.int k), u.oneCell' = true := fun u hu => by
  obtain ⟨x, _, rfl⟩ := List.mem_map.1 hu; rfl
theorem one_eds (E : List Ed) : ∀ u ∈ E.flatMap Ed.cells, u.oneCell' = true := fun u hu => by
  obtain ⟨e, _, hu⟩ := List.mem_flatMap.1 hu
  simp [Ed.cells] at hu
  rcases hu with rfl | rfl | rfl <;> rfl
structure Re where
  f : Int
  t : Int
  m : Int
def Re.cells (e : Re) : List Value := [.int .i64 e.f, .int .i64 e.t, .int .i64 e.m]
theorem Re.len : ∀ e : Re, e.cells.length = 3 := fun _ => rfl
theorem one_res (E : List Re) : ∀ u ∈ E.flatMap Re.cells, u.oneCell' = true := fun u hu => by
  obtain ⟨e, _, hu⟩ := List.mem_flatMap.1 hu
  simp [Re.cells] at hu
  rcases hu with rfl | rfl | rfl <;> rfl
theorem flat3 {T : Type} {cells : T → List Value} (h : ∀ e, (cells e).length = 3) (E : List T) : (E.flatMap cells).length = E.length * 3 := Fw.flat_len h E
def Ed.swap (e : Ed) : Ed := ⟨e.t, e.f, e.m⟩
theorem swap_step {E : List Ed} {k : Nat} (h : k < E.length) : ((E.take k).map Ed.swap).flatMap Ed.cells ++ Ed.cells (Ed.swap E[k]) = ((E.take (k + 1)).map Ed.swap).flatMap Ed.cells := by
  rw [List.take_succ_eq_append_getElem h, List.map_append, List.flatMap_append]; simp
theorem swap_ok {N : Nat} {E : List Ed} (h : EOk N E) : EOk N (E.map Ed.swap) := fun e he => by
  obtain ⟨x, hx, rfl⟩ := List.mem_map.1 he
  exact ⟨(h x hx).2, (h x hx).1⟩
theorem arcs_swap (N : Nat) (E : List Ed) (ws : List Int) : arcs N (E.map Ed.swap) ws true = arcs N E ws false := by
  unfold arcs
  congr 1
  simp
  funext i; rw [List.getElem?_map]; cases E[i]? <;> rfl
  funext i; rw [List.getElem?_map]; cases E[i]? <;> rfl
theorem arcT_swap (N : Nat) (E : List Ed) (ts : List Int) : arcT N (E.map Ed.swap) ts true = arcT N E ts false := by
  unfold arcT; rw [arcs_swap, List.length_map]
/-- a graph of the reference is right -/
def reOk (N : Int) (e : Re) : Prop := (0 ≤ e.f ∧ e.f < N) ∧ (0 ≤ e.t ∧ e.t < N) ∧ 1 ≤ e.m ∧ (e.m ≤ 1048576 ∨ e.m = 4611686018427387904)
instance (N : Int) (e : Re) : Decidable (reOk N e) := by unfold reOk; infer_instance
def Right (N : Int) (R : List Re) : Prop := (1 ≤ N ∧ N ≤ 12) ∧ R.length ≤ 40 ∧ ∀ e ∈ R, reOk N e
instance (N : Int) (R : List Re) : Decidable (Right N R) := by unfold Right; infer_instance
theorem reOk_take {N : Int} {R : List Re} {k : Nat} (hk : k < R.length) (h : ∀ e ∈ R.take k, reOk N e) (h' : reOk N R[k]) : ∀ e ∈ R.take (k + 1), reOk N e := by
  rw [List.take_succ_eq_append_getElem hk]
  intro e he
  rcases List.mem_append.1 he with he | he
  exact h e he
  rw [List.mem_singleton.1 he]; exact h'
/-- a way, edge by edge -/
def edZ (E : List Ed) (i : Int) : Ed := if 0 ≤ i then (E[i.toNat]?).getD ⟨0, 0, 0⟩ else ⟨0, 0, 0⟩
theorem edZ_at {E : List Ed} {i : Int} {u : Nat} (h : i = u) (hu : u < E.length) : edZ E i = E[u] := by
  subst h; unfold edZ; rw [if_pos (by omega)]; simp [hu]
theorem edZ_no {E : List Ed} {i : Int} (h : ¬ (0 ≤ i ∧ i < E.length)) : edZ E i = ⟨0, 0, 0⟩ := by
  unfold edZ; split
  rw [List.getElem?_eq_none (by omega)]; rfl
  rfl
def edgesOk (M : Nat) (way : List Int) : Prop := ∀ i ∈ way, 0 ≤ i ∧ i < M
instance (M : Nat) (way : List Int) : Decidable (edgesOk M way) := by unfold edgesOk; infer_instance
theorem edgesOk_take {M : Nat} {l : List Int} {k : Nat} (hk : k < l.length) (h : edgesOk M (l.take k)) (h' : 0 ≤ l[k] ∧ l[k] < M) : edgesOk M (l.take (k + 1)) := by
  rw [take_succ' hk]
  intro e he
  rcases List.mem_append.1 he with he | he
  exact h e he
  rw [List.mem_singleton.1 he]; exact h'
def follow (E : List Ed) : Int → List Int → Option Int
  | v, [] => some v
  | v, i :: l => if ((edZ E i).f : Int) = v then follow E (edZ E i).t l else none
theorem follow_app (E : List Ed) : ∀ (a b : List Int) (v : Int), follow E v (a ++ b) = (follow E v a).bind fun u => follow E u b
  | [], b, v => rfl
  | i :: a, b, v => by
    show (if _ then _ else _) = (if _ then _ else _ : Option Int).bind _
    split
    exact follow_app E a b _
    rfl
theorem follow_step {E : List Ed} {l : List Int} {k : Nat} {v u : Int} (hk : k < l.length) (h : follow E v (l.take k) = some u) : follow E v (l.take (k + 1)) = if ((edZ E l[k]).f : Int) = u then some ((edZ E l[k]).t : Int) else none := by
  rw [take_succ' hk, follow_app, h]; rfl
theorem follow_no {E : List Ed} {l : List Int} {k : Nat} {v : Int} (h : follow E v (l.take k) = none) : follow E v l = none := by
  rw [← List.take_append_drop k l, follow_app, h]; rfl
def total (ts : List Int) : List Int → Option Int
  | [] => some 0
  | i :: l => if tt ts i.toNat = 4611686018427387904 then none else (total ts l).map fun s => tt ts i.toNat + s
theorem total_app (ts : List Int) : ∀ (a b : List Int), total ts (a ++ b) = (total ts a).bind fun s => (total ts b).map fun r => s + r
  | [], b => by show total ts b = (total ts b).map fun r => 0 + r; cases total ts b <;> simp
  | i :: a, b => by
    show (if _ then _ else _) = (if _ then _ else _ : Option Int).bind _
    split
    rfl
    show (total ts (a ++ b)).map _ = _
    rw [total_app ts a b]
    cases total ts a <;> cases total ts b <;> simp [Int.add_assoc]
theorem total_step {ts l : List Int} {k : Nat} {s : Int} (hk : k < l.length) (h : total ts (l.take k) = some s) : total ts (l.take (k + 1)) = if tt ts l[k].toNat = 4611686018427387904 then none else some (s + tt ts l[k].toNat) := by
  rw [take_succ' hk, total_app, h]
  show (Option.map (fun r => s + r) (if tt ts l[k].toNat = 4611686018427387904 then none else (some 0).map fun s => tt ts l[k].toNat + s)) = _
  split
  rfl
  show some (s + (tt ts l[k].toNat + 0)) = _; rw [Int.add_zero]
theorem total_no {ts l : List Int} {k : Nat} (h : total ts (l.take k) = none) : total ts l = none := by
  rw [← List.take_append_drop k l, total_app, h]; rfl
/-- what PathTime answers -/
def ptime (N : Nat) (E : List Ed) (ts way : List Int) (a b : Int) : Int × Int :=
  if ¬ ((0 ≤ a ∧ a < N) ∧ (0 ≤ b ∧ b < N)) then (0, 1) else
  if ¬ edgesOk E.length way then (0, 1) else
  if follow E a way = some b then (match total ts way with | some s => (s, 0) | none => (0, 13)) else (0, 2)
section
variable {N : Nat} {E : List Ed} {ts way : List Int} {a b : Int}
theorem pt1 (h : ¬ ((0 ≤ a ∧ a < N) ∧ (0 ≤ b ∧ b < N))) : ptime N E ts way a b = (0, 1) := by unfold ptime; rw [if_pos h]
theorem pt2 (h : (0 ≤ a ∧ a < N) ∧ (0 ≤ b ∧ b < N)) (he : ¬ edgesOk E.length way) : ptime N E ts way a b = (0, 1) := by unfold ptime; rw [if_neg (fun hn => hn h), if_pos he]
theorem pt3 (h : (0 ≤ a ∧ a < N) ∧ (0 ≤ b ∧ b < N)) (he : edgesOk E.length way) (hf : ¬ follow E a way = some b) : ptime N E ts way a b = (0, 2) := by unfold ptime; rw [if_neg (fun hn => hn h), if_neg (fun hn => hn he), if_neg hf]
theorem pt4 (h : (0 ≤ a ∧ a < N) ∧ (0 ≤ b ∧ b < N)) (he : edgesOk E.length way) (hf : follow E a way = some b) (ht : total ts way = none) : ptime N E ts way a b = (0, 13) := by unfold ptime; rw [if_neg (fun hn => hn h), if_neg (fun hn => hn he), if_pos hf, ht]
theorem pt5 {s : Int} (h : (0 ≤ a ∧ a < N) ∧ (0 ≤ b ∧ b < N)) (he : edgesOk E.length way) (hf : follow E a way = some b) (ht : total ts way = some s) : ptime N E ts way a b = (s, 0) := by unfold ptime; rw [if_neg (fun hn => hn h), if_neg (fun hn => hn he), if_pos hf, ht]
end
end Rg
set_option maxRecDepth 100000 in
set_option maxHeartbeats 1000000 in
theorem clone_any (w : World) (A : Option Addr) (E : List Rg.Ed) (c : Nat) (h : Rd w A (E.flatMap Rg.Ed.cells)) (hl : E.length ≤ 65536) (hA : ∃ ad, A = some ad) : Calls Try.prog 27 #[.slice A E.length c] w fun e_ w' => ∃ A' c', e_ = .returned (.slice A' E.length c') ∧ w'.ownsRow w.heap.size 29 3 (.slice A' E.length c') E.length (E.flatMap Rg.Ed.cells) ∧ Below w.heap.size w w' := by
  obtain ⟨ad, rfl⟩ := hA
  refine Fw.calls Try.func27 rfl Try.ntmps27 rfl ?_
  have HB := Below.refl (w.heap.size) w
  refine Fw.seq fun _ hK1 => ?_
  refine Fw.region ?_
  refine Fw.s (Fw.val_assign rfl) rfl ?_
  refine Fw.nil ?_
  refine hK1 _ _ ?_
  refine Fw.seq fun _ hK2 => ?_
  refine Fw.seq fun _ hK3 => ?_
  refine Fw.region ?_
  refine Fw.s (Fw.val_move rfl) rfl ?_
  refine Fw.s (Fw.val_bin rfl rfl (Fw.b_nilS Try.underlying30)) rfl ?_
  refine Fw.nil ?_
  refine hK3 _ _ ?_
  refine Fw.condF rfl ?_
  refine Fw.skip ?_
  refine hK2 _ _ ?_
  refine Fw.seq fun _ hK4 => ?_
  refine Fw.region ?_
  refine Fw.buildSlice [] sl30 rfl rfl (by exact Fw.allSz rfl) (by decide) rfl ?_
  intro w1 gS5 egS5 HS5 hb
  have lgS5 : w.heap.size ≤ gS5 := by have := HB.size; omega
  replace HB := HB.trans (hb.mono HB.size)
  clear hb
  clear egS5
  refine Fw.s (Fw.val_move rfl) rfl ?_
  refine Fw.append (E.length) (E.flatMap Rg.Ed.cells) sl30 rfl rfl (Fw.own_blk HS5 lgS5 (by unfold maxLen; omega) rfl) (h.low HB) (Rg.flat3 Rg.Ed.len E) (Rg.one_eds E) (by unfold maxLen; omega) HB.size (Nat.zero_add _) rfl rfl ?_
  intro A7 c7 w2 N_ hbb hc hrow
  replace HB := HB.trans hbb
  clear hbb hc hrow HS5
  refine Fw.s (Fw.val_assign rfl) rfl ?_
  refine Fw.nil ?_
  refine hK4 _ _ (Fw.FC.sub (f' := [(2, _)]) (.cons rfl .nil) ?_)
  refine Fw.ret ?_
  refine Fw.ret_ [.tmp 2] [_] Try.results27 (.tmp rfl .nil) ?_
  exact ⟨A7, c7, rfl, N_, HB⟩

set_option maxRecDepth 100000 in
set_option maxHeartbeats 1000000 in
theorem edgeAll_any (w : World) (g : Nat) (N : Nat) (E : List Rg.Ed) (hG : Rg.GAt w g N E) (i : Int) : Calls Try.prog 54 #[.pointer (some ⟨g, 0, none⟩), .int .i64 i] w fun e_ w' => e_ = .returned (.tuple #[.agg (Rg.edZ E i).cells.toArray, .bool (decide (0 ≤ i ∧ i < E.length))]) ∧ Below w.heap.size w w' := by
  by_cases hi : 0 ≤ i ∧ i < E.length
  obtain ⟨u, rfl⟩ : ∃ u : Nat, i = (u : Int) := ⟨i.toNat, by omega⟩
  rw [decide_eq_true hi, Rg.edZ_at rfl (show u < E.length by omega)]
  exact edge_any w g N E hG u (by omega)
  rw [decide_eq_false hi, Rg.edZ_no hi]
  exact edgeNo_any w g N E hG i hi
end Go.Proofs.Ytodhpooddmeghaa
