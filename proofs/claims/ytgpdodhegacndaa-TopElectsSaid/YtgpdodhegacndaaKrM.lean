/- Layer 20: records in memory. -/
import Derived.Test.YtgpdodhegacndaaKrC
namespace Go.Proofs.Ytgpdodhegacndaa
set_option linter.unusedSimpArgs false
set_option linter.unusedVariables false
open Go.RowKit
/-- a record in memory: its kind, its body, and where the body lies -/
structure Rv where
  k : Int
  b : List Int
  A : Option Addr
  c : Nat
def Rv.cells (v : Rv) : List Value := [.int .u8 v.k, .slice v.A v.b.length v.c]
theorem Rv.len (v : Rv) : v.cells.length = 2 := rfl
def Rv.r (v : Rv) : Jr.R := ⟨v.k, v.b⟩
def rs (l : List Rv) : List Jr.R := l.map Rv.r
theorem rs_len (l : List Rv) : (rs l).length = l.length := List.length_map _
theorem rs_append (a b : List Rv) : rs (a ++ b) = rs a ++ rs b := List.map_append
theorem rs_take (l : List Rv) (k : Nat) : rs (l.take k) = (rs l).take k := List.map_take
theorem rs_at (l : List Rv) (k : Nat) (hk : k < l.length) : (rs l)[k]'(by rw [rs_len]; exact hk) = l[k].r := by simp [rs]
theorem rs_snoc (l : List Rv) (k : Nat) (hk : k < l.length) : rs (l.take (k + 1)) = rs (l.take k) ++ [l[k].r] := by
  rw [List.take_succ_eq_append_getElem hk, rs_append]; rfl
/-- records that are read -/
def Recs (w : World) (A : Option Addr) (l : List Rv) : Prop := Rd w A (l.flatMap Rv.cells) ∧ ∀ v ∈ l, Rd w v.A (v.b.map (.int .u8))
theorem Recs.low {w w' : World} {A : Option Addr} {l : List Rv} (h : Recs w A l) (hb : Below w.heap.size w w') : Recs w' A l := ⟨h.1.low hb, fun v hv => (h.2 v hv).low hb⟩
theorem Recs.at {w : World} {A : Option Addr} {l : List Rv} (h : Recs w A l) (k : Nat) (hk : k < l.length) : Rd w l[k].A (l[k].b.map (.int .u8)) := h.2 _ (List.getElem_mem hk)
theorem Recs.take {w : World} {A : Option Addr} {l : List Rv} (h : Recs w A l) (k : Nat) : Recs w A (l.take k) := by
  refine ⟨fun j v hj => h.1 j v ?_, fun v hv => h.2 v (List.mem_of_mem_take hv)⟩
  have : l.flatMap Rv.cells = (l.take k).flatMap Rv.cells ++ (l.drop k).flatMap Rv.cells := by rw [← List.flatMap_append, List.take_append_drop]
  rw [this, List.getElem?_append_left (List.getElem?_eq_some_iff.1 hj).1]; exact hj
/-- what turns: blocks of these types, and the block g of bytes; nothing below B -/
structure Kf (B : Nat) (ts : List TypeId) (g : Option Nat) (w w' : World) : Prop where
  low : Below B w w'
  keep : ∀ (k : Nat) (t : TypeId) (cs : Array Value) (fr : Nat × Nat), w.heap[k]? = some (Obj.cells cs t fr) → ts.contains t = false → (t = 5 → some k ≠ g) → w'.heap[k]? = some (Obj.cells cs t fr)
theorem heap_lt {w : World} {k : Nat} {o : Obj} (h : w.heap[k]? = some o) : k < w.heap.size := by
  rcases Nat.lt_or_ge k w.heap.size with h1 | h1
  · exact h1
  · rw [Array.getElem?_eq_none h1] at h; cases h
theorem Kf.below {B : Nat} (ts : List TypeId) (g : Option Nat) {w w' : World} (hb : Below w.heap.size w w') (hB : B ≤ w.heap.size) : Kf B ts g w w' :=
  ⟨hb.mono hB, fun k t cs fr h _ _ => by rw [hb.block k (heap_lt h)]; exact h⟩
theorem Kf.trans {B : Nat} {ts : List TypeId} {g g' : Option Nat} {a b c : World} (h : Kf B ts g a b) (h' : Kf B ts g' b c) (hg : g' = g ∨ ∃ k, g' = some k ∧ a.heap.size ≤ k) : Kf B ts g a c :=
  ⟨h.low.trans h'.low, fun k t cs fr hk ht hu => h'.keep k t cs fr (h.keep k t cs fr hk ht hu) ht fun e => by
    rcases hg with rfl | ⟨k', rfl, hk'⟩
    · exact hu e
    · intro e2; injection e2 with e2; have := heap_lt hk; omega⟩
theorem Kf.chg {B : Nat} {ts : List TypeId} {g : Option Nat} {S : Nat → Prop} {w w' : World} (hc : Chg S w w') (hb : Below B w w') (hS : ∀ k t cs fr, w.heap[k]? = some (Obj.cells cs t fr) → S k → ts.contains t = true ∨ (t = 5 ∧ some k = g)) : Kf B ts g w w' :=
  ⟨hb, fun k t cs fr hk ht hu => by
    rw [hc.block k (heap_lt hk) ?_]; exact hk
    intro hs
    rcases hS k t cs fr hk hs with h | ⟨h1, h2⟩
    · rw [h] at ht; cases ht
    · exact hu h1 h2⟩
theorem Kf.row {B : Nat} {g : Option Nat} {e : TypeId} {size n base : Nat} {v : Value} {xs : List Value} {w w' : World} (h : w.ownsRow base e size v n xs) (hc : Chg (fun k => some k = v.ownBlock) w w') (hb : Below B w w') : Kf B [e] g w w' :=
  Kf.chg hc hb fun k t cs fr hk hs => .inl (by
    rcases h.2 with ⟨rfl, _⟩ | ⟨g', cap, cur, rfl, _, hh, _⟩
    · cases hs
    · have : k = g' := by simpa [Value.ownBlock] using hs
      subst this
      rw [hh] at hk
      injection hk with hk; injection hk with _ hk _
      subst hk; simp)
theorem Blk.kf {B : Nat} {ts : List TypeId} {g : Option Nat} {w w' : World} {k : Nat} {t : TypeId} {cs : Array Value} (h : Blk w k t cs) (hk : Kf B ts g w w') (ht : ts.contains t = false) (hu : t ≠ 5) : Blk w' k t cs :=
  hk.keep k t cs _ h ht (fun e => absurd e hu)
theorem own_kf {B : Nat} {ts : List TypeId} {g : Option Nat} {w w' : World} {base e size n : Nat} {v : Value} {xs : List Value} (h : w.ownsRow base e size v n xs) (hk : Kf B ts g w w') (ht : ts.contains e = false) (hu : e ≠ 5) : w'.ownsRow base e size v n xs := by
  refine ⟨h.1, ?_⟩
  rcases h.2 with h | ⟨k, cap, cur, rfl, hg, hh, h⟩
  · exact .inl h
  · exact .inr ⟨k, cap, cur, rfl, hg, hk.keep k _ _ _ hh ht (fun e => absurd e hu), h⟩
/-- a body: it lies below B, or in a block of bytes that is not g -/
def Bod (w : World) (g : Option Nat) (B : Nat) (v : Rv) : Prop :=
  Rd w v.A (v.b.map (.int .u8)) ∧ (v.b ≠ [] → ∀ ad, v.A = some ad → ad.block < B ∨ ((∃ cs fr, w.heap[ad.block]? = some (Obj.cells cs 5 fr)) ∧ some ad.block ≠ g))
theorem Bod.kf {B : Nat} {ts : List TypeId} {g g' : Option Nat} {w w' : World} {v : Rv} (h : Bod w g B v) (hk : Kf B ts g w w') (ht : ts.contains 5 = false) (hg : g' = g ∨ ∃ k, g' = some k ∧ w.heap.size ≤ k) : Bod w' g' B v := by
  by_cases hv : v.b = []
  · exact ⟨by rw [hv]; exact Rd.nil _ _, fun x => absurd hv x⟩
  · refine ⟨h.1.keep (fun p' _ hp => ?_), fun _ ad e => ?_⟩
    · obtain ⟨ad, e, hb⟩ := hp
      rcases h.2 hv ad e with h1 | ⟨⟨cs, fr, h2⟩, h3⟩
      · exact World.cell?_of_block (by rw [hb]; exact hk.low.block _ h1)
      · exact World.cell?_of_block (by rw [hb, hk.keep _ _ _ _ h2 ht (fun _ => h3), h2])
    · rcases h.2 hv ad e with h1 | ⟨⟨cs, fr, h2⟩, h3⟩
      · exact .inl h1
      · refine .inr ⟨⟨cs, fr, hk.keep _ _ _ _ h2 ht (fun _ => h3)⟩, ?_⟩
        rcases hg with rfl | ⟨k, rfl, hk'⟩
        · exact h3
        · intro e2; injection e2 with e2; have := heap_lt h2; omega
theorem Bod.low {B : Nat} {g : Option Nat} {w w' : World} {v : Rv} (h : Bod w g B v) (hb : Below w.heap.size w w') (hB : B ≤ w.heap.size) : Bod w' g B v := h.kf (Kf.below [] g hb hB) rfl (.inl rfl)
theorem Bod.new {w : World} {B base : Nat} {g : Option Nat} {k : Int} {b : List Int} {A : Option Addr} {c : Nat} (h : w.ownsRow base 5 1 (.slice A b.length c) b.length (b.map (.int .u8))) (hg : ∀ k, g = some k → k < base) : Bod w g B ⟨k, b, A, c⟩ :=
  ⟨Rd.of_own h, fun _ ad e => .inr ⟨by
    rcases h.2 with ⟨h1, _⟩ | ⟨k', cap, cur, h1, _, hh, _⟩
    · injection h1 with h1; have e : A = some ad := e; rw [h1] at e; cases e
    · injection h1 with h1; have e : A = some ad := e; rw [h1] at e; injection e with e; subst e; exact ⟨cur, _, hh⟩, fun e2 => by
    have e : A = some ad := e
    have h1 := (h.lt ad.block (by rw [e]; rfl)).1
    have := hg _ e2.symm
    omega⟩⟩
theorem Bod.old {w0 w : World} {B : Nat} {g : Option Nat} {v : Rv} (h : Rd w0 v.A (v.b.map (.int .u8))) (hB : w0.heap.size ≤ B) (hb : Below w0.heap.size w0 w) : Bod w g B v := by
  have := RdB.of h
  refine ⟨this.go hb, fun hv ad e => .inl (Nat.lt_of_lt_of_le (this.2 (by simpa using hv) ad e) hB)⟩
theorem Bod.mono {B B' : Nat} {g : Option Nat} {w : World} {v : Rv} (h : Bod w g B v) (hb : B ≤ B') : Bod w g B' v := ⟨h.1, fun hv ad e => (h.2 hv ad e).imp (fun h => Nat.lt_of_lt_of_le h hb) id⟩
theorem Kf.mono {B B' : Nat} {ts : List TypeId} {g : Option Nat} {w w' : World} (h : Kf B ts g w w') (hb : B' ≤ B) : Kf B' ts g w w' := ⟨h.low.mono hb, h.keep⟩
/-- a row of records of the call's own, at or above B; bodies below D, or in blocks of bytes other than g -/
def RecO (w : World) (g : Option Nat) (B D : Nat) (e : TypeId) (A : Option Addr) (c : Nat) (l : List Rv) : Prop :=
  w.ownsRow B e 2 (.slice A l.length c) l.length (l.flatMap Rv.cells) ∧ ∀ v ∈ l, Bod w g D v
theorem RecO.nil (w : World) (g : Option Nat) (B D : Nat) (e : TypeId) : RecO w g B D e none 0 [] := ⟨World.ownsRow_nil _ _ _ _, fun v hv => by cases hv⟩
theorem RecO.recs {w : World} {g : Option Nat} {B D : Nat} {e : TypeId} {A : Option Addr} {c : Nat} {l : List Rv} (h : RecO w g B D e A c l) : Recs w A l := ⟨Rd.of_own h.1, fun v hv => (h.2 v hv).1⟩
theorem RecO.up {w : World} {g : Option Nat} {B B' D D' : Nat} {e : TypeId} {A : Option Addr} {c : Nat} {l : List Rv} (h : RecO w g B D e A c l) (hB : B' ≤ B) (hD : D ≤ D') : RecO w g B' D' e A c l := ⟨own_base h.1 hB, fun v hv => (h.2 v hv).mono hD⟩
theorem RecO.low {w w' : World} {g : Option Nat} {B D : Nat} {e : TypeId} {A : Option Addr} {c : Nat} {l : List Rv} (h : RecO w g B D e A c l) (hb : Below w.heap.size w w') (hB : D ≤ w.heap.size) : RecO w' g B D e A c l :=
  ⟨own_below h.1 hb (Nat.le_refl _), fun v hv => (h.2 v hv).low hb hB⟩
theorem RecO.kf {w w' : World} {ts : List TypeId} {g g' : Option Nat} {B D : Nat} {e : TypeId} {A : Option Addr} {c : Nat} {l : List Rv} (h : RecO w g B D e A c l) (hk : Kf D ts g w w') (he : ts.contains e = false) (hu : e ≠ 5) (ht : ts.contains 5 = false) (hg : g' = g ∨ ∃ k, g' = some k ∧ w.heap.size ≤ k) : RecO w' g' B D e A c l :=
  ⟨own_kf h.1 hk he hu, fun v hv => (h.2 v hv).kf hk ht hg⟩
theorem RecO.snoc {w w' : World} {g : Option Nat} {B D : Nat} {e : TypeId} {A A' : Option Addr} {c c' : Nat} {l : List Rv} {v : Rv} (h : RecO w g B D e A c l) (hu : e ≠ 5) (hv : Bod w g D v) (hn : w'.ownsRow B e 2 (.slice A' (l ++ [v]).length c') (l ++ [v]).length ((l ++ [v]).flatMap Rv.cells)) (hc : Chg (fun k => some k = (Value.slice A l.length c).ownBlock) w w') (hb : Below D w w') : RecO w' g B D e A' c' (l ++ [v]) := by
  have hk : Kf D [e] g w w' := Kf.row h.1 hc hb
  have hne : [e].contains 5 = false := by simpa using fun e' => hu e'.symm
  refine ⟨hn, fun x hx => ?_⟩
  rcases List.mem_append.1 hx with hx | hx
  · exact (h.2 x hx).kf hk hne (.inl rfl)
  · simp at hx; subst hx; exact hv.kf hk hne (.inl rfl)
theorem RecO.box {w w' : World} {g : Option Nat} {B D x : Nat} {e t : TypeId} {A : Option Addr} {c : Nat} {l : List Rv} {cs : Array Value} (h : RecO w g B D e A c l) (hx : Blk w x t cs) (hc : Chg (· = x) w w') (hB : D ≤ x) (hBw : D ≤ w.heap.size) (ho : ¬ some x = (Value.slice A l.length c).ownBlock) (ht8 : [t].contains 5 = false) : RecO w' g B D e A c l :=
  ⟨own_chg h.1 hc (fun k hk e => ho (by rw [hk, e])), fun v hv => (h.2 v hv).kf (ts := [t]) (g := g) (Kf.chg hc (hc.below (fun k e => by omega) hBw) (fun k t' cs' fr hk_ e_ => .inl (by
    subst e_
    unfold Blk at hx
    rw [hx] at hk_
    injection hk_ with hk_; injection hk_ with _ hk_ _
    subst hk_; simp))) ht8 (.inl rfl)⟩
theorem RecO.out {w : World} {g : Option Nat} {B D : Nat} {e : TypeId} {A : Option Addr} {c : Nat} {l : List Rv} (h : RecO w g B D e A c l) {x : Nat} (hx : w.heap.size ≤ x) : ¬ some x = (Value.slice A l.length c).ownBlock := fun e_ => by
  have := (h.1.lt x e_.symm).2; omega
theorem RecO.type {w : World} {g : Option Nat} {B D : Nat} {e : TypeId} {A : Option Addr} {c : Nat} {l : List Rv} {x : Nat} {t : TypeId} {cs : Array Value} (h : RecO w g B D e A c l) (hx : Blk w x t cs) (hne : e ≠ t) : ¬ some x = (Value.slice A l.length c).ownBlock := fun e_ => own_ne_blk h.1 hx hne e_.symm
end Go.Proofs.Ytgpdodhegacndaa
