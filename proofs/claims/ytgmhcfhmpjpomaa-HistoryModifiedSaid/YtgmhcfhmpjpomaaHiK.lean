/- Layer 49: the first invalid record. -/
import Derived.Test.YtgmhcfhmpjpomaaHiC
namespace Go.Proofs.Ytgmhcfhmpjpomaa
set_option linter.unusedSimpArgs false
set_option linter.unusedVariables false
open Go.RowKit

namespace Hi
def prevAt (l : List V) : Nat → Int
  | 0 => 14695981039346656037
  | k + 1 => (l.getD k zero).s
def badV (p : Int) (v : V) : Bool := !(rg v.t && rg v.e) || v.s != sl p v
def badP (x v : V) : Bool := decide (v.t < x.t ∨ v.e < x.e) || same x v
def badAt (l : List V) (k : Nat) : Bool := badV (prevAt l k) (l.getD k zero) || (decide (0 < k) && badP (l.getD (k - 1) zero) (l.getD k zero))
/-- the first invalid record, or -1 -/
def chk (l : List V) : Int := match (List.range l.length).find? (badAt l) with
  | some k => (k : Nat)
  | none => -1
theorem chk_hit {l : List V} {k : Nat} (hk : k < l.length) (hb : badAt l k = true) (h : ∀ j, j < k → badAt l j = false) : chk l = k := by
  unfold chk
  have : (List.range l.length).find? (badAt l) = some k := by
    rw [List.find?_range_eq_some]
    exact ⟨hb, by simpa using hk, fun j hj => by rw [h j hj]; rfl⟩
  rw [this]
theorem chk_end {l : List V} (h : ∀ j, j < l.length → badAt l j = false) : chk l = -1 := by
  unfold chk
  have : (List.range l.length).find? (badAt l) = none := by
    rw [List.find?_eq_none]
    intro j hj; rw [h j (by simpa using hj)]; simp
  rw [this]
theorem getD_at {l : List V} {k : Nat} (h : k < l.length) {v : V} (e : l[k] = v) : l.getD k zero = v := by
  rw [List.getD_eq_getElem?_getD, List.getElem?_eq_getElem h, e]; rfl
end Hi

end Go.Proofs.Ytgmhcfhmpjpomaa
