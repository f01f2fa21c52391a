/- Layer 20: the journal in memory. -/
import Derived.Test.YtgpdodhegacndaaKrM
import Derived.Test.YtgpdodhegacndaaSu
namespace Go.Proofs.Ytgpdodhegacndaa
set_option linter.unusedSimpArgs false
set_option linter.unusedVariables false
open Go.RowKit
namespace Jr
theorem one_len (s : Int) (r : R) : (one s r).length = (Wr.enc (r.b.length : Nat)).length + r.b.length + 9 := by unfold one; simp [Ck.bytesI_length]; omega
/-- the chain checksums before the first record and after each record -/
def sums (l : List R) : List Int := (List.range (l.length + 1)).map fun k => sealF s0 (l.take k)
theorem sums_len (l : List R) : (sums l).length = l.length + 1 := by simp [sums]
theorem sums_at (l : List R) (k : Nat) (hk : k < (sums l).length) : (sums l)[k] = sealF s0 (l.take k) := by simp [sums]
theorem sums_snoc (l : List R) (r : R) : sums (l ++ [r]) = sums l ++ [sealF s0 (l ++ [r])] := by
  unfold sums
  rw [List.length_append, List.length_singleton, List.range_succ, List.map_append]
  congr 1
  · apply List.map_congr_left
    intro k hk
    have := List.mem_range.1 hk
    rw [List.take_append_of_le_length (by omega)]
  · rw [List.map_singleton, List.take_of_length_le (by simp)]
end Jr
theorem FileAt.low_ {w w' : World} {B p : Nat} {g : Option Nat} {t : St.T} (h : FileAt w B p g t) (hb : Below w.heap.size w w') : FileAt w' B p g t := by
  obtain ⟨hB, A, c, hk, ho, hg⟩ := h
  exact ⟨hB, A, c, hk.low hb, own_below ho hb (Nat.le_refl _), hg⟩
theorem FileAt.lt_ {w : World} {B p : Nat} {g : Option Nat} {t : St.T} (h : FileAt w B p g t) : p < w.heap.size ∧ B ≤ p ∧ ∀ k, g = some k → k < w.heap.size ∧ B ≤ k := by
  obtain ⟨hB, A, c, hk, ho, hg⟩ := h
  refine ⟨hk.lt, hB, fun k e => ?_⟩
  have := ho.lt k (by rw [ownBlock_slice, hg, e])
  exact ⟨this.2, this.1⟩
theorem own_kf0 {B : Nat} {ts : List TypeId} {w w' : World} {base e size n : Nat} {v : Value} {xs : List Value} (h : w.ownsRow base e size v n xs) (hk : Kf B ts none w w') (ht : ts.contains e = false) : w'.ownsRow base e size v n xs := by
  refine ⟨h.1, ?_⟩
  rcases h.2 with h | ⟨k, cap, cur, rfl, hg, hh, h⟩
  · exact .inl h
  · exact .inr ⟨k, cap, cur, rfl, hg, hk.keep k _ _ _ hh ht (fun _ e => by cases e), h⟩
theorem FileAt.kf0 {w w' : World} {B B' p : Nat} {g : Option Nat} {t : St.T} {ts : List TypeId} (h : FileAt w B p g t) (hk : Kf B' ts none w w') (h1 : ts.contains 75 = false) (h2 : ts.contains 5 = false) : FileAt w' B p g t := by
  obtain ⟨hB, A, c, hb, ho, hg⟩ := h
  exact ⟨hB, A, c, hb.kf hk h1 (by decide), own_kf0 ho hk h2, hg⟩
theorem Kf.box {B x : Nat} {g : Option Nat} {t : TypeId} {cs : Array Value} {w w' : World} (hx : Blk w x t cs) (hc : Chg (· = x) w w') (hB : B ≤ x) : Kf B [t] g w w' :=
  Kf.chg hc (hc.below (fun k e => by omega) (by have := hx.lt; omega)) (fun k t' cs' fr hk_ e_ => .inl (by
    subst e_
    unfold Blk at hx
    rw [hx] at hk_
    injection hk_ with hk_; injection hk_ with _ hk_ _
    subst hk_; simp))
theorem Kf.file {w w' : World} {B p : Nat} {g : Option Nat} {t : St.T} (h : FileAt w B p g t) (hc : Chg (fun k => k = p ∨ some k = g) w w') : Kf B [75] g w w' := by
  have hl := h.lt_
  obtain ⟨hB, A, c, hb, ho, hg⟩ := h
  refine Kf.chg hc (hc.below (fun k e => ?_) (by omega)) (fun k t' cs' fr hk_ e_ => ?_)
  · rcases e with e | e
    · omega
    · exact (hl.2.2 k e.symm).2
  · rcases e_ with rfl | e_
    · left
      unfold Blk at hb
      rw [hb] at hk_
      injection hk_ with hk_; injection hk_ with _ hk_ _
      subst hk_; simp
    · right
      refine ⟨?_, e_⟩
      rcases ho.2 with ⟨h1, _⟩ | ⟨k', cap, cur, h1, _, hh, _⟩
      · injection h1 with h1; rw [h1] at hg; rw [← hg] at e_; cases e_
      · injection h1 with h1; rw [h1] at hg; rw [← hg] at e_
        have : k = k' := by simpa using e_
        subst this
        rw [hh] at hk_
        injection hk_ with hk_; injection hk_ with _ hk_ _
        exact hk_.symm
/-- a *journal.Journal at block p, its file at block pf -/
def JAt (w : World) (B p pf : Nat) (g : Option Nat) (t : St.T) (L : List Rv) : Prop :=
  B ≤ p ∧ FileAt w B pf g t ∧ ∃ A1 c1 A2 c2, Blk w p 62 #[.pointer (some ⟨pf, 0, none⟩), .slice A1 L.length c1, .slice A2 (Jr.sums (rs L)).length c2] ∧ RecO w g B B 64 A1 c1 L ∧
    w.ownsRow B 51 1 (.slice A2 (Jr.sums (rs L)).length c2) (Jr.sums (rs L)).length ((Jr.sums (rs L)).map (.int .u64))
theorem JAt.low {w w' : World} {B p pf : Nat} {g : Option Nat} {t : St.T} {L : List Rv} (h : JAt w B p pf g t L) (hb : Below w.heap.size w w') : JAt w' B p pf g t L := by
  obtain ⟨h0, hf, A1, c1, A2, c2, h1, h2, h3⟩ := h
  exact ⟨h0, hf.low_ hb, A1, c1, A2, c2, h1.low hb, h2.low hb (by have := h1.lt; omega), own_below h3 hb (Nat.le_refl _)⟩
theorem JAt.file {w w' : World} {B p pf : Nat} {g : Option Nat} {t t' : St.T} {L : List Rv} (h : JAt w B p pf g t L) (hto : FileTo w w' B pf g t') : ∃ g', JAt w' B p pf g' t' L ∧ Kf B [75] g w w' ∧ (g' = g ∨ ∃ k, g' = some k ∧ w.heap.size ≤ k) := by
  obtain ⟨h0, hf, A1, c1, A2, c2, h1, h2, h3⟩ := h
  obtain ⟨g', hf', hc, hg⟩ := hto
  have hk := Kf.file hf hc
  exact ⟨g', ⟨h0, hf', A1, c1, A2, c2, h1.kf hk (by decide) (by decide), h2.kf hk (by decide) (by decide) (by decide) hg, own_kf h3 hk (by decide) (by decide)⟩, hk, hg⟩
theorem JAt.lt {w : World} {B p pf : Nat} {g : Option Nat} {t : St.T} {L : List Rv} (h : JAt w B p pf g t L) : p < w.heap.size ∧ pf < w.heap.size ∧ B ≤ w.heap.size := by
  obtain ⟨h0, hf, A1, c1, A2, c2, h1, h2, h3⟩ := h
  have := h1.lt
  exact ⟨this, hf.lt_.1, by omega⟩
/-- what turns when a journal does -/
def TS : List TypeId := [62, 75, 64, 51]
theorem Kf.wide {B : Nat} {ts ts' : List TypeId} {g : Option Nat} {w w' : World} (h : Kf B ts g w w') (hs : ∀ t, ts'.contains t = false → ts.contains t = false) : Kf B ts' g w w' := ⟨h.low, fun k t cs fr a b c => h.keep k t cs fr a (hs t b) c⟩
end Go.Proofs.Ytgpdodhegacndaa
