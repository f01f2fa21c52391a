/- Layer 9: what paths and distances obey. Plain law: no program is named here. -/
import Derived.Test.YtodhpooddmeghaaRgK
namespace Go.Proofs.Ytodhpooddmeghaa
set_option linter.unusedSimpArgs false
set_option linter.unusedVariables false
namespace Rg
section
variable {N : Nat} {E : List Ed} {ts : List Int} {D : Nat → Int} {b : Nat}
/-- node numbers as whole numbers -/
def zs (l : List Nat) : List Int := l.map fun (i : Nat) => (i : Int)
theorem zs_len (l : List Nat) : (zs l).length = l.length := List.length_map ..
theorem ints_zs (l : List Nat) : ints l = (zs l).map (.int .i64) := by unfold ints zs; rw [List.map_map]; rfl
theorem h8_ : (1048576 : Int) * 8192 + 1 < Sp.INF := by decide
theorem hNW_ (hN : N ≤ 12) : (N : Int) * (1048576 * 8192 + 1) + (1048576 * 8192 + 1) < Sp.INF := by show _ < (4611686018427387904 : Int); omega
/-- the way that Path takes is one, and takes the time that Path says -/
theorem trail_time (hEO : EOk N E) (hN : N ≤ 12) (hb : b < N) (hD : Sp.IsDist (Sp.star (arcT N E ts false)) 8589934593 (· = b) D) {a : Nat} {l : List Nat} (ht : Sp.Trail (arcT N E ts false) D b a l) :
    a < N → D a ≠ Sp.INF → edgesOk E.length (zs l) ∧ follow E a (zs l) = some (b : Int) ∧ total ts (zs l) = some (Sp.dOf D a) := by
  have hA : (arcT N E ts false).Ok 1048576 := arcT_ok ts false hEO
  have hN' : (arcT N E ts false).N ≤ 4096 := by show N ≤ 4096; omega
  induction ht with
  | nil =>
    intro _ _
    have := hD.up.zero b hb rfl
    refine ⟨fun i hi => (by cases hi), rfl, ?_⟩
    unfold Sp.dOf; rw [this]; rfl
  | @cons v i l hv hi hr ih =>
    intro hvN hf
    obtain ⟨⟨ho, hti, hfs, e⟩, _⟩ := hi
    have hil : i < E.length := ho.1
    have es : (arcT N E ts false).s i = E[i].t := arc_s hil
    have et : (arcT N E ts false).t i = E[i].f := arc_t hil
    have ew : (arcT N E ts false).wt i = tt ts i := wt_ltF hil
    obtain ⟨h1, h2, h3⟩ := ih (hA.s i hil) hfs
    have h4 := (Sp.tight_iff hA h8_ hN' hb hD ho hfs (by rw [hti]; exact hf)).1 (by rw [hti]; exact e)
    rw [hti, ew] at h4
    have ez : edZ E (i : Int) = E[i] := edZ_at rfl hil
    rw [es] at h2 h3 h4
    refine ⟨fun j hj => ?_, ?_, ?_⟩
    · rcases List.mem_cons.1 hj with hj | hj
      · have hj : j = (i : Int) := hj
        subst hj
        exact ⟨Int.natCast_nonneg i, Int.ofNat_lt.2 hil⟩
      · exact h1 j hj
    · show (if ((edZ E (i : Int)).f : Int) = (v : Int) then follow E (edZ E (i : Int)).t (zs l) else none) = _
      rw [ez, if_pos (by rw [← et, hti])]
      exact h2
    · show (if tt ts ((i : Int).toNat) = 4611686018427387904 then none else (total ts (zs l)).map fun s => tt ts ((i : Int).toNat) + s) = _
      rw [Int.toNat_natCast, if_neg (by rw [← ew]; exact ho.2), h3, h4.1]
      rfl
/-- no way is better -/
theorem way_ge (hEO : EOk N E) (hN : N ≤ 12) (hb : b < N) (hD : Sp.IsDist (Sp.star (arcT N E ts false)) 8589934593 (· = b) D) : ∀ {way : List Int} {a : Nat} {s : Int}, way.length ≤ 60 → a < N → edgesOk E.length way → follow E a way = some (b : Int) → total ts way = some s →
    (0 ≤ s ∧ s ≤ way.length * 1048576) ∧ D a ≤ s * 8192 + way.length
  | [], a, s, _, ha, _, hf, ht => by
    have hab : (a : Int) = b := by injection hf
    have hs : (0 : Int) = s := by injection ht
    have := hD.up.zero a ha (by omega)
    subst hs
    simp only [List.length_nil]
    omega
  | i :: l, a, s, hl, ha, he, hf, ht => by
    have hA : (arcT N E ts false).Ok 1048576 := arcT_ok ts false hEO
    have hN' : (arcT N E ts false).N ≤ 4096 := by show N ≤ 4096; omega
    have hi := he i (by simp)
    obtain ⟨u, rfl⟩ : ∃ u : Nat, i = (u : Int) := ⟨i.toNat, by omega⟩
    have hul : u < E.length := by omega
    have ez : edZ E (u : Int) = E[u] := edZ_at rfl hul
    have es : (arcT N E ts false).s u = E[u].t := arc_s hul
    have et : (arcT N E ts false).t u = E[u].f := arc_t hul
    have ew : (arcT N E ts false).wt u = tt ts u := wt_ltF hul
    have hf : (if ((edZ E (u : Int)).f : Int) = (a : Int) then follow E (edZ E (u : Int)).t l else none) = some (b : Int) := hf
    rw [ez] at hf
    have hfa : (E[u].f : Int) = a := by
      by_cases c : (E[u].f : Int) = a
      · exact c
      · rw [if_neg c] at hf; cases hf
    rw [if_pos hfa] at hf
    have ht : (if tt ts ((u : Int).toNat) = 4611686018427387904 then none else (total ts l).map fun s => tt ts ((u : Int).toNat) + s) = some s := ht
    rw [Int.toNat_natCast] at ht
    have htu : tt ts u ≠ 4611686018427387904 := fun c => by rw [if_pos c] at ht; cases ht
    rw [if_neg htu] at ht
    have htb := (tt_bd ts u).resolve_left htu
    cases hr : total ts l with
    | none => rw [hr] at ht; cases ht
    | some r =>
      rw [hr] at ht
      have hs : tt ts u + r = s := by injection ht
      have hl' : l.length ≤ 60 := by simp only [List.length_cons] at hl; omega
      obtain ⟨h1, h2⟩ := way_ge hEO hN hb hD hl' (hEO _ (List.getElem_mem hul)).2 (fun j hj => he j (by simp [hj])) hf hr
      have ho : (arcT N E ts false).Op u := ⟨hul, by rw [ew]; exact htu⟩
      have I : (Sp.INF : Int) = 4611686018427387904 := rfl
      have h3 := Sp.star_rel hA h8_ hN' (hNW_ hN) hb hD ho (by rw [es]; omega)
      rw [es, et, ew] at h3
      have e : E[u].f = a := by omega
      rw [e] at h3
      simp only [List.length_cons]
      omega
theorem ptime_ok {way : List Int} {a b s : Int} (h : ptime N E ts way a b = (s, 0)) : ((0 ≤ a ∧ a < N) ∧ (0 ≤ b ∧ b < N)) ∧ edgesOk E.length way ∧ follow E a way = some b ∧ total ts way = some s := by
  by_cases h1 : (0 ≤ a ∧ a < (N : Int)) ∧ (0 ≤ b ∧ b < (N : Int))
  · by_cases h2 : edgesOk E.length way
    · by_cases h3 : follow E a way = some b
      · cases h4 : total ts way with
        | none => rw [pt4 h1 h2 h3 h4] at h; injection h with _ h; exact absurd h (by decide)
        | some r => rw [pt5 h1 h2 h3 h4] at h; injection h with h _; exact ⟨h1, h2, h3, by rw [h]⟩
      · rw [pt3 h1 h2 h3] at h; injection h with _ h; exact absurd h (by decide)
    · rw [pt2 h1 h2] at h; injection h with _ h; exact absurd h (by decide)
  · rw [pt1 h1] at h; injection h with _ h; exact absurd h (by decide)
theorem min_time (hEO : EOk N E) (hN : N ≤ 12) (hb : b < N) (hD : Sp.IsDist (Sp.star (arcT N E ts false)) 8589934593 (· = b) D) {a : Nat} {l : List Nat} (ht : Sp.Trail (arcT N E ts false) D b a l) (ha : a < N) (hf : D a ≠ Sp.INF) : ptime N E ts (zs l) a b = (Sp.dOf D a, 0) := by
  obtain ⟨h1, h2, h3⟩ := trail_time hEO hN hb hD ht ha hf
  exact pt5 (by omega) h1 h2 h3
theorem min_ok (hEO : EOk N E) (hN : N ≤ 12) (hb : b < N) (hD : Sp.IsDist (Sp.star (arcT N E ts false)) 8589934593 (· = b) D) {a : Nat} {way : List Int} (ha : a < N) (hl : way.length ≤ 60) (h : (ptime N E ts way a b).2 = 0) :
    D a ≠ Sp.INF ∧ Sp.dOf D a ≤ (ptime N E ts way a b).1 ∧ ∀ l, Sp.Trail (arcT N E ts false) D b a l → (Sp.dOf D a < (ptime N E ts way a b).1 ∨ l.length ≤ way.length) := by
  have hA : (arcT N E ts false).Ok 1048576 := arcT_ok ts false hEO
  have hN' : (arcT N E ts false).N ≤ 4096 := by show N ≤ 4096; omega
  obtain ⟨s, hs⟩ : ∃ s, ptime N E ts way a b = (s, 0) := ⟨(ptime N E ts way a b).1, by rw [← h]⟩
  rw [hs]
  obtain ⟨_, h2, h3, h4⟩ := ptime_ok hs
  obtain ⟨h5, h6⟩ := way_ge hEO hN hb hD hl ha h2 h3 h4
  have I : (Sp.INF : Int) = 4611686018427387904 := rfl
  have hf : D a ≠ Sp.INF := by omega
  have d := Sp.dig hA h8_ hN' hb hD ha hf
  show D a ≠ Sp.INF ∧ Sp.dOf D a ≤ s ∧ _
  refine ⟨hf, by omega, fun l ht => ?_⟩
  have := (ht.sum hA h8_ hN' hb hD ha hf).2
  show Sp.dOf D a < s ∨ _
  omega
end
/-! ### the triangle -/
theorem tri {A : Sp.Arcs} {W : Int} (hA : A.Ok W) (hW : 2 * ((A.N : Int) * W) < Sp.INF) {a b c : Nat} (ha : a < A.N) (hb : b < A.N) (hc : c < A.N) {d e : Nat → Int} (h : Sp.IsDist A W (· = a) d) (h' : Sp.IsDist A W (· = b) e) (h1 : d b < Sp.INF) (h2 : e c < Sp.INF) : d c ≤ d b + e c := by
  have h0 := (h'.lo.pos c hc).1
  obtain ⟨u, l, hu, rfl, hw⟩ := Sp.walk_of hA h' (e c).toNat c hc (by omega) (by omega)
  have hb1 := (h.bnd u hb).resolve_left (by omega)
  have hb2 := (h'.bnd c hc).resolve_left (by omega)
  exact Sp.walk_ge hA h.up (fun v hv => (h.lo.pos v hv).2) hw hb (by omega) (by omega)
theorem arc_rev (N : Nat) (E : List Ed) (ts : List Int) : (arcT N E ts true).rev = arcT N E ts false := rfl
theorem src_one {A : Sp.Arcs} {W : Int} {a : Nat} {d : Nat → Int} (h : Sp.IsDist A W (fun v => (v : Int) ∈ [(a : Int)]) d) : Sp.IsDist A W (· = a) d := h.src fun v _ => by rw [List.mem_singleton]; omega
theorem to_from {N : Nat} {E : List Ed} {ts : List Int} (hEO : EOk N E) (hN : N ≤ 12) {a c : Nat} (ha : a < N) (hc : c < N) {d e : Nat → Int} (h : Sp.IsDist (arcT N E ts true) 1048576 (· = a) d) (h' : Sp.IsDist (arcT N E ts false) 1048576 (· = c) e) : d c = e a :=
  Sp.rev_eq (A := arcT N E ts true) (arcT_ok ts true hEO) (by show (N : Int) * 1048576 < 4611686018427387904; omega) ha hc h h'
theorem way_to {N : Nat} {E : List Ed} {ts : List Int} (hEO : EOk N E) (hN : N ≤ 12) {a c : Nat} (ha : a < N) (hc : c < N) {D e : Nat → Int} (hD : Sp.IsDist (Sp.star (arcT N E ts false)) 8589934593 (· = c) D) (h' : Sp.IsDist (arcT N E ts false) 1048576 (· = c) e) : e a = Sp.dOf D a :=
  Sp.IsDist.unique (A := arcT N E ts false) (arcT_ok ts false hEO) h' (Sp.star_dist (arcT_ok ts false hEO) h8_ (by show N ≤ 4096; omega) (hNW_ hN) hc hD) a ha
theorem dOf_lt {N : Nat} {E : List Ed} {ts : List Int} (hEO : EOk N E) (hN : N ≤ 12) {a c : Nat} (ha : a < N) (hc : c < N) {D : Nat → Int} (hD : Sp.IsDist (Sp.star (arcT N E ts false)) 8589934593 (· = c) D) : Sp.dOf D a < Sp.INF ↔ D a ≠ Sp.INF :=
  Sp.fin_of (A := arcT N E ts false) hD (arcT_ok ts false hEO) h8_ (by show N ≤ 4096; omega) hc ha
/-! ### slower edges, more sources -/
theorem tt_slow {ts : List Int} {k : Nat} (hk : k < ts.length) {L : Int} (hL : 0 ≤ L) (h1 : 1 ≤ ts[k] ∧ ts[k] ≤ 1048576) (i : Nat) : tt (ts.set k (ts[k] + L)) i = Sp.INF ∨ tt ts i ≤ tt (ts.set k (ts[k] + L)) i ∧ tt ts i ≠ Sp.INF := by
  by_cases e : k = i
  · subst e
    have hk' : k < (ts.set k (ts[k] + L)).length := by rw [List.length_set]; exact hk
    rw [tt_in hk', tt_in hk, List.getElem_set_self]
    split
    · right
      have I : (Sp.INF : Int) = 4611686018427387904 := rfl
      omega
    · exact .inl rfl
  · have e1 : tt (ts.set k (ts[k] + L)) i = tt ts i := by
      unfold tt
      rw [List.length_set, Sp.ix_set hk, if_neg e]
    rw [e1]
    by_cases c : tt ts i = Sp.INF
    · exact .inl c
    · exact .inr ⟨Int.le_refl _, c⟩
theorem slow_ge {N : Nat} {E : List Ed} {ts : List Int} (hEO : EOk N E) {k : Nat} (hk : k < ts.length) {L : Int} (hL : 0 ≤ L) (h1 : 1 ≤ ts[k] ∧ ts[k] ≤ 1048576) {src : Nat → Prop} {d e : Nat → Int}
    (h : Sp.IsDist (arcT N E ts true) 1048576 src d) (h' : Sp.IsDist (arcT N E (ts.set k (ts[k] + L)) true) 1048576 src e) : ∀ v, v < N → d v ≤ e v :=
  Sp.le_of (A := arcT N E ts true) (B := arcT N E (ts.set k (ts[k] + L)) true) (arcT_ok ts true hEO) (arcT_ok _ true hEO) rfl h.up h'.lo (fun _ _ h => h) (fun i hi => by
    have hil : i < E.length := hi.1
    have hw : (arcT N E (ts.set k (ts[k] + L)) true).wt i = tt (ts.set k (ts[k] + L)) i := wt_lt hil
    have hw' : (arcT N E ts true).wt i = tt ts i := wt_lt hil
    have h2 := (tt_slow hk hL h1 i).resolve_left (by rw [← hw]; exact hi.2)
    exact ⟨i, ⟨hil, by rw [hw']; exact h2.2⟩, rfl, rfl, by rw [hw, hw']; exact h2.1⟩) (fun v hv => (h.lo.pos v hv).2)
theorem more_le {N : Nat} {E : List Ed} {ts : List Int} (hEO : EOk N E) {ends : List Int} {m : Int} {d f : Nat → Int}
    (h : Sp.IsDist (arcT N E ts true) 1048576 (fun v => (v : Int) ∈ ends) d) (h' : Sp.IsDist (arcT N E ts true) 1048576 (fun v => (v : Int) ∈ ends ++ [m]) f) : ∀ v, v < N → f v ≤ d v :=
  Sp.le_of (A := arcT N E ts true) (B := arcT N E ts true) (arcT_ok ts true hEO) (arcT_ok ts true hEO) rfl h'.up h.lo (fun v _ h => List.mem_append.2 (.inl h)) (fun i hi => ⟨i, hi, rfl, rfl, Int.le_refl _⟩) (fun v hv => (h'.lo.pos v hv).2)
end Rg
end Go.Proofs.Ytodhpooddmeghaa
