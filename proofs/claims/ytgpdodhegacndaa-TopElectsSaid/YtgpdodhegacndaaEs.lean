/- TopElects: the five voters, and the votes that were counted. -/
import Derived.Test.YtgpdodhegacndaaWi
namespace Go.Proofs.Ytgpdodhegacndaa
set_option linter.unusedSimpArgs false
set_option linter.unusedVariables false
open Go.RowKit
namespace El
def upd {β : Type} (f : Nat → β) (e : Nat) (v : β) : Nat → β := fun j => if j = e then v else f j
theorem upd_same {β : Type} (f : Nat → β) (e : Nat) (v : β) : upd f e v e = v := if_pos rfl
theorem upd_ne {β : Type} (f : Nat → β) {e j : Nat} (v : β) (h : j ≠ e) : upd f e v j = f j := if_neg h
/-- the voters below K, but for e; what lies below B1 is nobody's -/
structure Vs (w : World) (e K B1 : Nat) (o : Nat → Nat) (tf rf : Nat → Nat) (Vf : Nat → List (Int × Int)) : Prop where
  vs : ∀ j, j < K → j ≠ e → Vr.VAt w o j (tf j) (rf j) (Vf j)
  k5 : K ≤ 5
  hO : ∀ x, x < B1 → o x = 9
  sz : B1 ≤ w.heap.size
section
variable {w w' : World} {e K B1 : Nat} {o o' : Nat → Nat} {tf rf : Nat → Nat} {Vf : Nat → List (Int × Int)}
theorem Vs.keep {S : Nat → Prop} (h : Vs w e K B1 o tf rf Vf) (hc : Chg S w w') (hS : ∀ x, S x → o x = e ∨ o x = 9) : Vs w' e K B1 o tf rf Vf :=
  ⟨fun j hj hne => (h.vs j hj hne).keep hc (fun x hx hs => by have := h.k5; rcases hS x hs with h1 | h1 <;> omega), h.k5, h.hO, Nat.le_trans h.sz hc.size⟩
theorem Vs.own (h : Vs w e K B1 o tf rf Vf) (ho : ∀ x, x < w.heap.size → o' x = o x) : Vs w e K B1 o' tf rf Vf :=
  ⟨fun j hj hne => (h.vs j hj hne).own ho, h.k5, fun x hx => by rw [ho x (Nat.lt_of_lt_of_le hx h.sz)]; exact h.hO x hx, h.sz⟩
theorem Vs.low (h : Vs w e K B1 o tf rf Vf) (hb : Below w.heap.size w w') : Vs w' e K B1 o tf rf Vf := h.keep (Chg.of_below hb (fun _ => False)) (fun _ h => h.elim)
theorem Vs.set (h : Vs w e K B1 o tf rf Vf) {K' r : Nat} {V' : List (Int × Int)} (hK : ∀ j, j < K' → j ≠ e → j < K) (h5 : K' ≤ 5) (hv : Vr.VAt w o e (tf e) r V') : Vs w 5 K' B1 o tf (upd rf e r) (upd Vf e V') :=
  ⟨fun j hj _ => by
    by_cases he : j = e
    · subst he; rw [upd_same, upd_same]; exact hv
    · rw [upd_ne _ _ he, upd_ne _ _ he]; exact h.vs j (hK j hj he) he, h5, h.hO, h.sz⟩
theorem Vs.off (h : Vs w 5 K B1 o tf rf Vf) (e : Nat) : Vs w e K B1 o tf rf Vf := ⟨fun j hj _ => h.vs j hj (by have := h.k5; omega), h.k5, h.hO, h.sz⟩
theorem Vs.tapes (h : Vs w e K B1 o tf rf Vf) {tf' : Nat → Nat} (ht : ∀ j, j < K → j ≠ e → tf' j = tf j) : Vs w e K B1 o tf' rf Vf := ⟨fun j hj hne => by rw [ht j hj hne]; exact h.vs j hj hne, h.k5, h.hO, h.sz⟩
end
theorem Vs.turn {w w' : World} {e K B1 gB : Nat} {o tf rf : Nat → Nat} {Vf : Nat → List (Int × Int)} (h : Vs w e K B1 o tf rf Vf) (hc : Chg (fun x => o x = e ∨ x = gB) w w') (hg : gB < B1) : Vs w' e K B1 (Vr.up o w.heap.size e) tf rf Vf :=
  (h.own (fun x hx => Vr.up_lt hx)).keep (hc.mono fun x hx e_ => (show x < w.heap.size ∧ (o x = e ∨ x = gB) from ⟨hx, e_⟩)) (fun x hx => by
    rw [Vr.up_lt hx.1]
    rcases hx.2 with h1 | h1
    · exact .inl h1
    · subst h1; exact .inr (h.hO _ hg))
/-- a vote, or a power failure -/
structure Pl where
  who : Int
  fr : Int
  tm : Int
  down : Bool
  keep : Int
def Pl.cells (p : Pl) : List Value := [.int .u8 p.who, .int .u8 p.fr, .int .u8 p.tm, .bool p.down, .int .u8 p.keep]
theorem Pl.len (p : Pl) : p.cells.length = 5 := rfl
def Pl.ok (p : Pl) : Prop := (0 ≤ p.who ∧ p.who ≤ 255) ∧ (0 ≤ p.fr ∧ p.fr ≤ 255) ∧ (0 ≤ p.tm ∧ p.tm ≤ 255) ∧ (0 ≤ p.keep ∧ p.keep ≤ 255)
theorem mod5 {x : Int} (h : 0 ≤ x) : ∃ i : Nat, i < 5 ∧ x.tmod 5 = (i : Int) := ⟨(x % 5).toNat, by omega, by rw [Int.tmod_eq_emod_of_nonneg h]; omega⟩
theorem mod3 {x : Int} (h : 0 ≤ x) : ∃ y : Int, (0 ≤ y ∧ y ≤ 2) ∧ x.tmod 3 = y := ⟨_, by rw [Int.tmod_eq_emod_of_nonneg h]; omega, rfl⟩
theorem mod4 {x : Int} (h : 0 ≤ x) : ∃ y : Int, (0 ≤ y ∧ y ≤ 3) ∧ x.tmod 4 = y := ⟨_, by rw [Int.tmod_eq_emod_of_nonneg h]; omega, rfl⟩
theorem arr_same {cs : Array Value} {i : Nat} {v : Value} (h : i < cs.size) : (cs.setIfInBounds i v)[i]? = some v := by rw [Array.getElem?_setIfInBounds_self]; simp [h]
theorem arr_ne {cs : Array Value} {i j : Nat} {v : Value} (h : j ≠ i) : (cs.setIfInBounds i v)[j]? = cs[j]? := Array.getElem?_setIfInBounds_ne (fun e => h e.symm)
def pv (k : Nat) : Value := .pointer (some ⟨k, 0, none⟩)
theorem arr_upd {cs : Array Value} {f : Nat → Nat} {i K K' r : Nat} (hi : i < cs.size) (hK : ∀ j, j < K' → j ≠ i → j < K) (h : ∀ j, j < K → cs[j]? = some (pv (f j))) : ∀ j, j < K' → (cs.setIfInBounds i (pv r))[j]? = some (pv (upd f i r j)) := fun j hj => by
  by_cases he : j = i
  · subst he; rw [arr_same hi, upd_same]
  · rw [arr_ne he, upd_ne _ _ he]; exact h j (hK j hj he)
theorem upd_nil (k : Nat) : upd (fun _ => ([] : List (Int × Int))) k [] = fun _ => [] := by funext j; unfold upd; split <;> rfl
theorem sl_some {G : Int → List (Int × Int)} {A : Int → Option Addr} {c : Int → Nat} {x : Int} {v : Value} (h : Mp.sl G A c x = some v) : v = .slice (A x) (G x).length (c x) := by
  unfold Mp.sl at h
  split at h
  · cases h
  · injection h with h; exact h.symm
theorem yes_yes {v : List (Int × Int)} {m : Nat} (hm : m < v.length) {x : Int} (h : v[m].2 = x) : yes (v.take (m + 1)) x = yes (v.take m) x ++ [v[m].1] := by
  unfold yes; rw [List.take_succ_eq_append_getElem hm, List.filter_append, List.map_append]; simp [h]
theorem yes_no {v : List (Int × Int)} {m : Nat} (hm : m < v.length) {x : Int} (h : ¬ v[m].2 = x) : yes (v.take (m + 1)) x = yes (v.take m) x := by
  unfold yes; rw [List.take_succ_eq_append_getElem hm, List.filter_append, List.map_append]; simp [h]
/-- the voters but for e, and the votes that were counted: G -/
structure Sx (w : World) (e B1 gM : Nat) (o : Nat → Nat) (tf rf : Nat → Nat) (Vf : Nat → List (Int × Int)) (G : Int → List (Int × Int)) (A : Int → Option Addr) (c : Int → Nat) (n : Nat) : Prop where
  vs : Vs w e 5 B1 o tf rf Vf
  gr : Mp.Gr Try.prog w 2 .i64 47 2 B1 gM n vc G A c
  om : o gM = 9
  gm : B1 ≤ gM
  oa : ∀ t i, (A t).map (·.block) = some i → o i = 9
  log : ∀ t x, x ∈ G t → ∃ i : Nat, i < 5 ∧ x.1 = (i : Int) ∧ (t, x.2) ∈ Vf i
  len : ∀ t, (G t).length ≤ n
section
variable {w w' w2 : World} {e B1 gM n : Nat} {o o' : Nat → Nat} {tf rf : Nat → Nat} {Vf : Nat → List (Int × Int)} {G : Int → List (Int × Int)} {A : Int → Option Addr} {c : Int → Nat}
theorem Sx.keep {S : Nat → Prop} (h : Sx w e B1 gM o tf rf Vf G A c n) (hc : Chg S w w') (hS : ∀ x, S x → o x = e ∨ (o x = 9 ∧ x < B1)) (he : e ≠ 9) : Sx w' e B1 gM o tf rf Vf G A c n := by
  have hgm := h.gm
  have hom := h.om
  refine ⟨h.vs.keep hc (fun x hx => (hS x hx).imp id (·.1)), h.gr.chg hc (fun hx => by rcases hS _ hx with h1 | h1 <;> omega) (fun t i hi hx => ?_), h.om, h.gm, h.oa, h.log, h.len⟩
  have h1 := h.oa t i hi
  have h2 := ((h.gr.row t).lt i (by rw [ownBlock_slice]; exact hi)).1
  rcases hS _ hx with h3 | h3 <;> omega
theorem Sx.own (h : Sx w e B1 gM o tf rf Vf G A c n) (ho : ∀ x, x < w.heap.size → o' x = o x) : Sx w e B1 gM o' tf rf Vf G A c n :=
  ⟨h.vs.own ho, h.gr, by rw [ho _ h.gr.map.lt]; exact h.om, h.gm, fun t i hi => by rw [ho i ((h.gr.row t).lt i (by rw [ownBlock_slice]; exact hi)).2]; exact h.oa t i hi, h.log, h.len⟩
theorem Sx.low (h : Sx w e B1 gM o tf rf Vf G A c n) (hb : Below w.heap.size w w') : Sx w' e B1 gM o tf rf Vf G A c n :=
  ⟨h.vs.low hb, h.gr.low hb, h.om, h.gm, h.oa, h.log, h.len⟩
/-- new blocks that are nobody's -/
theorem Sx.low9 (h : Sx w e B1 gM o tf rf Vf G A c n) (hb : Below w.heap.size w w') : Sx w' e B1 gM (Vr.up o w.heap.size 9) tf rf Vf G A c n := (h.own (fun x hx => Vr.up_lt hx)).low hb
theorem Sx.box {g ty : Nat} {cs : Array Value} (h : Sx w e B1 gM o tf rf Vf G A c n) (hb : Blk w g ty cs) (hne : 47 ≠ ty) (hc : Chg (· = g) w w') (hg : o g = 9) : Sx w' e B1 gM o tf rf Vf G A c n :=
  ⟨h.vs.keep hc (fun x hx => by rw [hx]; exact .inr hg), h.gr.box hb hne hc, h.om, h.gm, h.oa, h.log, h.len⟩
theorem Sx.open_ (h : Sx w 5 B1 gM o tf rf Vf G A c n) {i : Nat} (hi : i < 5) : Sx w i B1 gM o tf rf Vf G A c n ∧ Vr.VAt w o i (tf i) (rf i) (Vf i) :=
  ⟨⟨h.vs.off i, h.gr, h.om, h.gm, h.oa, h.log, h.len⟩, h.vs.vs i hi (by omega)⟩
/-- voter e's own blocks turned, and b's array -/
theorem Sx.turn {gB : Nat} (h : Sx w e B1 gM o tf rf Vf G A c n) (he : e < 5) (hc : Chg (fun x => o x = e ∨ x = gB) w w') (hg : gB < B1) : Sx w' e B1 gM (Vr.up o w.heap.size e) tf rf Vf G A c n :=
  (h.own (fun x hx => Vr.up_lt hx)).keep (hc.mono fun x hx e_ => (show x < w.heap.size ∧ (o x = e ∨ x = gB) from ⟨hx, e_⟩)) (fun x hx => by
    rw [Vr.up_lt hx.1]
    rcases hx.2 with h1 | h1
    · exact .inl h1
    · subst h1; exact .inr ⟨h.vs.hO _ hg, hg⟩) (by omega)
theorem Sx.turn1 (h : Sx w e B1 gM o tf rf Vf G A c n) (he : e < 5) (hc : Chg (fun x => o x = e) w w') : Sx w' e B1 gM (Vr.up o w.heap.size e) tf rf Vf G A c n :=
  (h.own (fun x hx => Vr.up_lt hx)).keep (hc.mono fun x hx e_ => (show x < w.heap.size ∧ o x = e from ⟨hx, e_⟩)) (fun x hx => by
    rw [Vr.up_lt hx.1]; exact .inl hx.2) (by omega)
theorem Sx.set (h : Sx w e B1 gM o tf rf Vf G A c n) {r : Nat} {V' : List (Int × Int)} (he : e < 5) (hv : Vr.VAt w o e (tf e) r V') (hs : ∀ x, x ∈ Vf e → x ∈ V') : Sx w 5 B1 gM o tf (upd rf e r) (upd Vf e V') G A c n :=
  ⟨h.vs.set (fun j hj _ => hj) (Nat.le_refl _) hv, h.gr, h.om, h.gm, h.oa, fun t x hx => by
    obtain ⟨i, hi, h1, h2⟩ := h.log t x hx
    refine ⟨i, hi, h1, ?_⟩
    by_cases hie : i = e
    · subst hie; rw [upd_same]; exact hs _ h2
    · rw [upd_ne _ _ hie]; exact h2, h.len⟩
/-- a vote is counted -/
theorem Sx.vote {t nd : Int} {i : Nat} {A' : Option Addr} {c' l' : Nat} (h : Sx w 5 B1 gM o tf rf Vf G A c n) (hi : i < 5) (hin : (t, nd) ∈ Vf i) (hl' : l' = (G t ++ [((i : Int), nd)]).length) (hc : Chg (fun k => some k = (Value.slice (A t) (G t).length (c t)).ownBlock) w w')
    (hN : w'.ownsRow B1 47 2 (.slice A' l' c') l' ((G t ++ [((i : Int), nd)]).flatMap vc)) (hrow : A'.map (·.block) = (Value.slice (A t) (G t).length (c t)).ownBlock ∨ A'.map (·.block) = some w.heap.size)
    (hM : Mp.MapI Try.prog w2 2 .i64 gM (n + 1) (Mp.set (Mp.sl G A c) t (.slice A' l' c'))) (hc2 : Chg (· = gM) w' w2) :
    Sx w2 5 B1 gM (Vr.up o w.heap.size 9) tf rf Vf (Mp.put G t (G t ++ [((i : Int), nd)])) (Mp.put A t A') (Mp.put c t c') (n + 1) := by
  have hg := h.gr.put_ (v := ((i : Int), nd)) hl' hc hN hrow hM hc2
  have ho : ∀ x, x < w.heap.size → Vr.up o w.heap.size 9 x = o x := fun x hx => Vr.up_lt hx
  have hmlt := h.gr.map.lt
  refine ⟨((h.vs.own ho).keep hc (fun x hx => .inr ?_)).keep hc2 (fun x hx => .inr ?_), hg, by rw [ho _ hmlt]; exact h.om, h.gm, fun s j hj => ?_, fun s x hx => ?_, fun s => ?_⟩
  · rw [ownBlock_slice] at hx
    rw [ho x ((h.gr.row t).lt x (by rw [ownBlock_slice]; exact hx.symm)).2]
    exact h.oa t x hx.symm
  · rw [hx, ho _ hmlt]; exact h.om
  · by_cases hs : s = t
    · subst hs
      rw [Mp.put_same] at hj
      rw [ownBlock_slice] at hrow
      rcases hrow with h1 | h1
      · rw [h1] at hj
        rw [ho j ((h.gr.row s).lt j (by rw [ownBlock_slice]; exact hj)).2]
        exact h.oa s j hj
      · rw [h1] at hj; injection hj with hj; subst hj; exact Vr.up_ge (Nat.le_refl _)
    · rw [Mp.put_ne _ _ hs] at hj
      rw [ho j ((h.gr.row s).lt j (by rw [ownBlock_slice]; exact hj)).2]
      exact h.oa s j hj
  · by_cases hs : s = t
    · subst hs
      rw [Mp.put_same] at hx
      rcases List.mem_append.1 hx with h1 | h1
      · exact h.log s x h1
      · rw [List.mem_singleton.1 h1]; exact ⟨i, hi, rfl, hin⟩
    · rw [Mp.put_ne _ _ hs] at hx; exact h.log s x hx
  · by_cases hs : s = t
    · subst hs
      rw [Mp.put_same, List.length_append, List.length_singleton]; have := h.len s; omega
    · rw [Mp.put_ne _ _ hs]; have := h.len s; omega
theorem Sx.mono {n' : Nat} (h : Sx w e B1 gM o tf rf Vf G A c n) (hn : n ≤ n') : Sx w e B1 gM o tf rf Vf G A c n' := ⟨h.vs, h.gr.mono hn, h.om, h.gm, h.oa, h.log, fun t => Nat.le_trans (h.len t) hn⟩
theorem Sx.start (h : Vs w 5 5 B1 o tf rf Vf) (hM : Mp.MapI Try.prog w 2 .i64 gM 0 (fun _ => none)) (hg : B1 ≤ gM) (ho : o gM = 9) : Sx w 5 B1 gM o tf rf Vf (fun _ => []) (fun _ => none) (fun _ => 0) 0 :=
  ⟨h, Mp.Gr.start hM, ho, hg, fun _ _ h => (by cases h), fun _ _ h => (by cases h), fun _ => Nat.le_refl _⟩
/-- votes of a term: small numbers, one for each voter -/
def Ok (v : List (Int × Int)) : Prop := (∀ x ∈ v, (0 ≤ x.1 ∧ x.1 ≤ 4) ∧ (0 ≤ x.2 ∧ x.2 ≤ 2)) ∧ ∀ a b b', (a, b) ∈ v → (a, b') ∈ v → b = b'
theorem Sx.ok (h : Sx w 5 B1 gM o tf rf Vf G A c n) (t : Int) : Ok (G t) := by
  have hgood : ∀ j, j < 5 → Vr.Good (Vf j) := fun j hj => (h.vs.vs j hj (by omega)).good
  refine ⟨fun x hx => ?_, fun a b b' h1 h2 => ?_⟩
  · obtain ⟨i, hi, e1, e2⟩ := h.log t x hx
    have := ((hgood i hi).2 _ e2).2
    exact ⟨by omega, this⟩
  · obtain ⟨i, hi, e1, e2⟩ := h.log t _ h1
    obtain ⟨j, hj, e3, e4⟩ := h.log t _ h2
    have e1 : a = (i : Int) := e1
    have e3 : a = (j : Int) := e3
    have hij : i = j := by omega
    subst hij
    exact (hgood i hi).one e2 e4
end
/-- at most one node is reached -/
theorem one_rea {new new' : List Int} {v : List (Int × Int)} (hv : Ok v) {x y : Int} (hx : Rea [0, 1, 2] new (yes v x)) (hy : Rea [0, 1, 2] new' (yes v y)) : x = y := by
  have h1 := hx.2.1
  have h2 := hy.2.1
  unfold Mj at h1 h2
  simp only [cnt, List.length_cons, List.length_nil] at h1 h2
  have key : ∀ i : Int, i ∈ yes v x → i ∈ yes v y → x = y := fun i a b => hv.2 i x y (yes_mem.1 a) (yes_mem.1 b)
  by_cases a0 : (0 : Int) ∈ yes v x <;> by_cases a1 : (1 : Int) ∈ yes v x <;> by_cases a2 : (2 : Int) ∈ yes v x <;> by_cases b0 : (0 : Int) ∈ yes v y <;> by_cases b1 : (1 : Int) ∈ yes v y <;> by_cases b2 : (2 : Int) ∈ yes v y <;>
    first
    | exact key 0 a0 b0
    | exact key 1 a1 b1
    | exact key 2 a2 b2
    | (simp only [a0, a1, a2, if_true, if_false] at h1; omega)
    | (simp only [b0, b1, b2, if_true, if_false] at h2; omega)
theorem ml3 : ML [0, 1, 2] := by
  refine ⟨by decide, by decide, fun i hi => ?_⟩
  have : i = 0 ∨ i = 1 ∨ i = 2 := by simp at hi; omega
  rcases this with rfl | rfl | rfl <;> decide
/-- what a joint membership reaches, the plain one reaches -/
theorem rea_plain {new ys : List Int} (h : Rea [0, 1, 2] new ys) : Rea [0, 1, 2] [] ys := ⟨⟨ml3, .inl rfl⟩, h.2.1, .inl rfl⟩
/-- what Winner answers -/
def Won (old new : List Int) (v : List (Int × Int)) (r : Int) : Prop := (r = -1 ∧ ∀ x, ¬ Rea old new (yes v x)) ∨ (0 ≤ r ∧ r ≤ 2 ∧ Rea old new (yes v r))
theorem won_iff {v : List (Int × Int)} (hv : Ok v) {won : Int} (h : Won [0, 1, 2] [] v won) (wh : Nat) : Rea [0, 1, 2] [] (yes v (wh : Int)) ↔ (wh : Int) = won := by
  rcases h with ⟨h1, h2⟩ | ⟨h1, _, h2⟩
  · exact ⟨fun h => absurd h (h2 _), fun h => by omega⟩
  · exact ⟨fun h => one_rea hv h h2, fun h => by rw [h]; exact h2⟩
theorem won_both {v : List (Int × Int)} (hv : Ok v) {new : List Int} {won both : Int} (h : Won [0, 1, 2] [] v won) (h2 : Won [0, 1, 2] new v both) (hb : 0 ≤ both) : won = both := by
  rcases h2 with ⟨h3, _⟩ | ⟨_, _, h3⟩
  · omega
  · have h4 := rea_plain h3
    rcases h with ⟨_, h5⟩ | ⟨_, _, h5⟩
    · exact absurd h4 (h5 _)
    · exact one_rea hv h5 h4
end El
namespace Vr
/-- a new file -/
theorem newV_any (w : World) (o : Nat → Nat) (i : Nat) : Calls Try.prog 9 #[] w fun e w' => ∃ pf, e = .returned (.pointer (some ⟨pf, 0, none⟩)) ∧ FiS w' (up o w.heap.size i) i pf false [] ∧ Below w.heap.size w w' := by
  refine (new_any w).mono ?_
  rintro e w' ⟨rfl, h, hb⟩
  obtain ⟨h0, A, c, h1, h2, h3⟩ := h
  exact ⟨_, rfl, ⟨none, ⟨Nat.zero_le _, A, c, h1, own_base h2 (Nat.zero_le _), h3⟩, up_ge (Nat.le_refl _), fun k e => (by cases e), ⟨List.Pairwise.nil, fun v hv => by cases hv⟩⟩, hb⟩
end Vr
end Go.Proofs.Ytgpdodhegacndaa
