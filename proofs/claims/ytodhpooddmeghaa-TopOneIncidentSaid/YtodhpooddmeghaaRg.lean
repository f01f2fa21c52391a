/- A road graph in memory; a queue in memory. -/
import Derived.Test.YtodhpooddmeghaaProg
import Derived.Test.YtodhpooddmeghaaGr
import Derived.Test.YtodhpooddmeghaaSpB
namespace Go.Proofs.Ytodhpooddmeghaa
set_option linter.unusedSimpArgs false
set_option linter.unusedVariables false
open Go.RowKit
namespace Rg
structure Ed where
  f : Nat
  t : Nat
  m : Int
def Ed.cells (e : Ed) : List Value := [.int .i64 e.f, .int .i64 e.t, .int .i64 e.m]
theorem Ed.len : ∀ e : Ed, e.cells.length = 3 := fun _ => rfl
/-- the numbers of the edges with key v, in order -/
def adj (key : Ed → Nat) (E : List Ed) (v : Nat) : List Nat := (List.range E.length).filter (fun i => E[i]?.map key == some v)
theorem mem_adj {key : Ed → Nat} {E : List Ed} {v i : Nat} : i ∈ adj key E v ↔ ∃ h : i < E.length, key E[i] = v := by
  unfold adj
  rw [List.mem_filter, List.mem_range]
  constructor
  · rintro ⟨h1, h2⟩
    refine ⟨h1, ?_⟩
    rw [List.getElem?_eq_getElem h1] at h2
    simpa using h2
  · rintro ⟨h1, h2⟩
    refine ⟨h1, ?_⟩
    rw [List.getElem?_eq_getElem h1]
    simpa using h2
theorem adj_len {key : Ed → Nat} {E : List Ed} {v : Nat} : (adj key E v).length ≤ E.length := by
  unfold adj
  exact Nat.le_trans (List.length_filter_le _ _) (by simp)
def ints (l : List Nat) : List Value := l.map fun (i : Nat) => Value.int .i64 (i : Int)
/-- a row of rows: the slices svs hold, at v, the numbers of the edges with key v -/
def Tab (w : World) (A : Option Addr) (svs : List Value) (key : Ed → Nat) (E : List Ed) (N : Nat) : Prop :=
  Rd w A svs ∧ ∀ v, v < N → ∃ B c, svs[v]? = some (.slice B (adj key E v).length c) ∧ Rd w B (ints (adj key E v))
theorem Tab.low {w w' : World} {A : Option Addr} {svs : List Value} {key : Ed → Nat} {E : List Ed} {N : Nat} (h : Tab w A svs key E N) (hb : Below w.heap.size w w') : Tab w' A svs key E N :=
  ⟨h.1.low hb, fun v hv => by obtain ⟨B, c, h1, h2⟩ := h.2 v hv; exact ⟨B, c, h1, h2.low hb⟩⟩
/-- a graph: its struct's cells, its edges, its tables -/
structure GP (w : World) (g N : Nat) (E : List Ed) (Ae : Option Addr) (ce : Nat) (Ao : Option Addr) (co : Nat) (Ai : Option Addr) (ci : Nat) (svO svI : List Value) : Prop where
  blk : Blk w g 107 #[.slice Ae E.length ce, .slice Ao N co, .slice Ai N ci]
  edges : Rd w Ae (E.flatMap Ed.cells)
  out : Tab w Ao svO Ed.f E N
  inn : Tab w Ai svI Ed.t E N
def GAt (w : World) (g N : Nat) (E : List Ed) : Prop := ∃ Ae ce Ao co Ai ci svO svI, GP w g N E Ae ce Ao co Ai ci svO svI
theorem GP.low {w w' : World} {g N : Nat} {E : List Ed} {Ae : Option Addr} {ce : Nat} {Ao : Option Addr} {co : Nat} {Ai : Option Addr} {ci : Nat} {svO svI : List Value} (h : GP w g N E Ae ce Ao co Ai ci svO svI) (hb : Below w.heap.size w w') : GP w' g N E Ae ce Ao co Ai ci svO svI :=
  ⟨h.blk.low hb, h.edges.low hb, h.out.low hb, h.inn.low hb⟩
theorem GAt.low {w w' : World} {g N : Nat} {E : List Ed} (h : GAt w g N E) (hb : Below w.heap.size w w') : GAt w' g N E := by
  obtain ⟨Ae, ce, Ao, co, Ai, ci, svO, svI, h⟩ := h
  exact ⟨Ae, ce, Ao, co, Ai, ci, svO, svI, h.low hb⟩
/-- edges between nodes below N -/
def EOk (N : Nat) (E : List Ed) : Prop := ∀ e ∈ E, e.f < N ∧ e.t < N
/-- the travel time of an edge, infinite where it is closed -/
def tt (ts : List Int) (i : Nat) : Int := if i < ts.length ∧ 1 ≤ Sp.ix ts i ∧ Sp.ix ts i ≤ 1048576 then Sp.ix ts i else Sp.INF
def tts (n : Nat) (ts : List Int) : List Int := (List.range n).map (tt ts)
theorem tts_len (n : Nat) (ts : List Int) : (tts n ts).length = n := by unfold tts; simp
theorem tts_ix {n : Nat} (ts : List Int) {i : Nat} (h : i < n) : Sp.ix (tts n ts) i = tt ts i := by unfold tts Sp.ix; simp [h]
theorem tt_bd (ts : List Int) (i : Nat) : tt ts i = Sp.INF ∨ (1 ≤ tt ts i ∧ tt ts i ≤ 1048576) := by
  unfold tt; split
  · rename_i h; exact .inr h.2
  · exact .inl rfl
/-- the arcs of a graph, forward or backward -/
def arcs (N : Nat) (E : List Ed) (ws : List Int) (fwd : Bool) : Sp.Arcs where
  N := N
  M := E.length
  s := fun i => (E[i]?.map (if fwd then Ed.f else Ed.t)).getD 0
  t := fun i => (E[i]?.map (if fwd then Ed.t else Ed.f)).getD 0
  wt := Sp.ix ws
/-- weights of arcs -/
def WOk (M : Nat) (W : Int) (ws : List Int) : Prop := ws.length = M ∧ ∀ i, i < M → Sp.ix ws i = Sp.INF ∨ (1 ≤ Sp.ix ws i ∧ Sp.ix ws i ≤ W)
theorem arcs_ok {N : Nat} {E : List Ed} {ws : List Int} {fwd : Bool} {W : Int} (hE : EOk N E) (hw : WOk E.length W ws) : (arcs N E ws fwd).Ok W := by
  refine ⟨fun i hi => ?_, fun i hi => ?_, fun i hi => hw.2 i hi⟩
  · have := hE _ (List.getElem_mem (show i < E.length from hi))
    show (E[i]?.map _).getD 0 < N
    rw [List.getElem?_eq_getElem (show i < E.length from hi)]
    cases fwd <;> simp [this]
  · have := hE _ (List.getElem_mem (show i < E.length from hi))
    show (E[i]?.map _).getD 0 < N
    rw [List.getElem?_eq_getElem (show i < E.length from hi)]
    cases fwd <;> simp [this]
/-- the queue: its variable at gq, its row's block rb (gq where it has none) -/
def QAt (w : World) (gq rb : Nat) (l : List Int) : Prop := ∃ A c, Blk w gq 134 #[.slice A l.length c] ∧ w.ownsRow (gq + 1) 2 1 (.slice A l.length c) l.length (l.map (.int .i64)) ∧ rb = (match A with | some ad => ad.block | none => gq)
theorem QAt.low {w w' : World} {gq rb : Nat} {l : List Int} (h : QAt w gq rb l) (hb : Below w.heap.size w w') : QAt w' gq rb l := by
  obtain ⟨A, c, h1, h2, h3⟩ := h
  exact ⟨A, c, h1.low hb, own_below h2 hb (Nat.le_refl _), h3⟩
theorem QAt.chg {S : Nat → Prop} {w w' : World} {gq rb : Nat} {l : List Int} (h : QAt w gq rb l) (hc : Chg S w w') (hg : ¬ S gq) (hr : ¬ S rb) : QAt w' gq rb l := by
  obtain ⟨A, c, h1, h2, h3⟩ := h
  refine ⟨A, c, h1.chg hc hg, own_to h2 hc (fun g e hg' => ?_), h3⟩
  cases A with
  | none => cases e
  | some ad => injection e with e; have e : ad.block = g := e; exact hr (by rw [h3]; show S ad.block; rw [e]; exact hg')
theorem QAt.kp {w w' : World} {gq rb : Nat} {l : List Int} (h : QAt w gq rb l) (hk : Fw.Kp [] w w') : QAt w' gq rb l := by
  obtain ⟨A, c, h1, h2, h3⟩ := h
  exact ⟨A, c, h1.kp hk rfl, Fw.own_kp h2 hk rfl, h3⟩
theorem QAt.lt {w : World} {gq rb : Nat} {l : List Int} (h : QAt w gq rb l) : gq < w.heap.size ∧ gq ≤ rb ∧ rb < w.heap.size := by
  obtain ⟨A, c, h1, h2, h3⟩ := h
  have := h1.lt
  cases A with
  | none => subst h3; exact ⟨this, Nat.le_refl _, this⟩
  | some ad =>
    have := h2.lt ad.block rfl
    subst h3
    exact ⟨by omega, by show gq ≤ ad.block; omega, this.2⟩
end Rg
end Go.Proofs.Ytodhpooddmeghaa
