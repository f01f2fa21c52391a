/- Words of the engine: own rows over changes of other rows; drawn regions with a property of one's own. No program is named here. -/
import Derived.Test.YtgpdodhegacndaaGj
import Derived.Lib.SliceRun
namespace Go.Proofs.Ytgpdodhegacndaa
set_option linter.unusedSimpArgs false
set_option linter.unusedVariables false
open Go.RowKit
namespace Fw
theorem b_nilS {P : Program} {t e : TypeId} {x y : Operand} {A : Option Addr} {n c n' c' : Nat} (h : P.underlying t = some (.slice e)) : Bin P .eql t x y (.slice A n c) (.slice none n' c') (.bool A.isNone) := fun w => by
  have g : (eqGuard .eql t x y (.slice A n c) (.slice none n' c')).run P w = .ok () w := rfl
  rw [Sem.run_bind, g]; simp only [Result.andThen_ok]; exact Lib.run_eql_slice_nil w _ _ A n c n' c' h
theorem RdT.ne_ {w : World} {ty : TypeId} {A : Option Addr} {l : List Value} {g t : Nat} {cs : Array Value} (h : Fw.RdT w ty A l) (hb : Blk w g t cs) (hne : ty ≠ t) : ∀ ad, A = some ad → ¬ ad.block = g := fun ad e hg => by
  obtain ⟨cs', fr, hh⟩ := h.2 ad e
  rw [hg] at hh
  unfold Blk at hb
  rw [hb] at hh
  injection hh with hh
  injection hh with _ hh _
  exact hne hh.symm
theorem regionLS {ds : List Deferred} {P : Program} {Q : Exit → Act → World → Prop} {n : Nat} {f : Fr} {w : World} {id : Nat} {ops : Array Oper} (S : World → Prop) (k : Nat) (hm : P.follows .mixedOrders = true) (hS : S w.drew) (h : ∀ w', Below w.heap.size w w' → S w' → FLs P Q S k n ds ops ops.size (Array.replicate ops.size false) f w') : FC P Q n ds (.region id ops true) f w := fun a ha =>
  wp_region_noPanic (wp_region_any hm (wpL_any _ _ _ _ (h _ (drew_low w) hS hS a ha)))
section
variable {w w' : World} {base base' e e' size size' n n' c c' g : Nat} {A A' : Option Addr} {xs ys l : List Value} {ty : TypeId}
theorem own_lo (h : w.ownsRow base e size (.slice A n c) n xs) {k : Nat} (hk : A.map (·.block) = some k) : base ≤ k := by
  rcases h.2 with ⟨h1, _⟩ | ⟨g', cap, cur, h1, hb, _⟩
  · injection h1 with a; subst a; cases hk
  · injection h1 with a; subst a; injection hk with hk; rw [← hk]; exact hb
theorem own_hi (h : w.ownsRow base e size (.slice A n c) n xs) {k : Nat} (hk : A.map (·.block) = some k) : k < w.heap.size := by
  rcases h.2 with ⟨h1, _⟩ | ⟨g', cap, cur, h1, hb, hh, _⟩
  · injection h1 with a; subst a; cases hk
  · injection h1 with a; subst a; injection hk with hk
    have := (Array.getElem?_eq_some_iff.1 hh).1
    have e : g' = k := hk
    omega
/-- a row that is read goes over the change of an own row of another type -/
theorem RdT.chgO (h : Fw.RdT w ty A l) (ho : w.ownsRow base e size (.slice (some ⟨g, 0, none⟩) n c) n xs) (hne : ty ≠ e) (hc : Chg (· = g) w w') : Fw.RdT w' ty A l := by
  obtain ⟨cur, hb, _⟩ := Fw.own_at ho
  exact h.chg hc (h.ne_ hb hne)
theorem RdT.chgA (h : Fw.RdT w ty A l) (ho : w.ownsRow base e size (.slice A' n c) n xs) (hne : ty ≠ e) (hc : Chg (fun k => some k = (Value.slice A' n c).ownBlock) w w') : Fw.RdT w' ty A l := by
  refine h.chg hc fun ad hA e_ => ?_
  rcases ho.2 with ⟨h1, _⟩ | ⟨g', cap, cur, h1, hb, hh, _⟩
  · injection h1 with a; subst a; cases e_
  · injection h1 with a; subst a
    injection e_ with e_
    exact h.ne_ (g := g') (t := e) (cs := cur) hh hne ad hA e_
theorem own_toO (h : w.ownsRow base e size (.slice A n c) n xs) (ho : w.ownsRow base' e' size' (.slice (some ⟨g, 0, none⟩) n' c') n' ys) (hne : e ≠ e') (hc : Chg (· = g) w w') : w'.ownsRow base e size (.slice A n c) n xs := by
  obtain ⟨cur, hb, _⟩ := Fw.own_at ho
  exact own_to h hc fun g_ h_ e_ => own_ne h hb hne (by rw [h_, e_])
/-- an own row goes over the change of an own row of another type, whose block has no name -/
theorem own_toA (h : w.ownsRow base e size (.slice A n c) n xs) (ho : w.ownsRow base' e' size' (.slice A' n' c') n' ys) (hne : e ≠ e') (hc : Chg (fun k => some k = (Value.slice A' n' c').ownBlock) w w') : w'.ownsRow base e size (.slice A n c) n xs := by
  refine own_to h hc fun g_ h_ e_ => ?_
  rcases ho.2 with ⟨h1, _⟩ | ⟨g', cap, cur, h1, hb, hh, _⟩
  · injection h1 with a; subst a; cases e_
  · injection h1 with a; subst a
    injection e_ with e_
    exact own_ne h (g := g_) (t := e') (cs := cur) (by rw [e_]; exact hh) hne h_
end
end Fw
end Go.Proofs.Ytgpdodhegacndaa
