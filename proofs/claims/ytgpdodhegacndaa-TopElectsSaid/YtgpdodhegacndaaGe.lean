/- Regions that draw their order and turn memory: what reads is taken first, what turns memory comes up in every order. No program is named here. -/
import Derived.Test.YtgpdodhegacndaaGd
import Derived.OrdersHeld
import Derived.Deep.RegionHeld3
namespace Go.Proofs.Ytgpdodhegacndaa
set_option linter.unusedSimpArgs false
set_option linter.unusedVariables false
open Go.RowKit
namespace Fw
variable {ds : List Deferred}
section
variable {P : Program} {Q : Exit → Act → World → Prop} {S : World → Prop} {n : Nat} {ops : Array Oper} {o : Oper} {f : Fr} {w : World} {fuel i d : Nat} {listed : Array Bool} {v : Value}
def FH (P : Program) (Q : Exit → Act → World → Prop) (S : World → Prop) (n : Nat) (ds : List Deferred) (ops : Array Oper) (fuel : Nat) (listed : Array Bool) (f : Fr) (w : World) : Prop := S w → ∀ a, Has n ds f a → wpAnyH P .any ops (NoPanic Q) S fuel listed a w
/-- the region begins: S holds all along -/
theorem drew_low (w : World) : Below w.heap.size w w.drew := ⟨rfl, rfl, rfl, Nat.le_refl _, fun _ _ => rfl⟩
theorem regionH {id : Nat} {ops : Array Oper} (hm : P.follows .mixedOrders = true) (h : ∀ w', Below w.heap.size w w' → FH P Q (Below w.heap.size w) n ds ops ops.size (Array.replicate ops.size false) f w') : FC P Q n ds (.region id ops true) f w := fun a ha =>
  wp_region_noPanic (wp_region_held hm (h _ (drew_low w) (drew_low w) a ha))
/-- S of one's own -/
theorem regionHS {id : Nat} {ops : Array Oper} (S : World → Prop) (hm : P.follows .mixedOrders = true) (hS : S w.drew) (h : ∀ w', Below w.heap.size w w' → S w' → FH P Q S n ds ops ops.size (Array.replicate ops.size false) f w') : FC P Q n ds (.region id ops true) f w := fun a ha =>
  wp_region_noPanic (wp_region_held hm (h _ (drew_low w) hS hS a ha))
def Yld (P : Program) (n : Nat) (ops : Array Oper) (f : Fr) (S : World → Prop) (o : Oper) (v : Value) : Prop := ∀ {ds : List Deferred} a, Has n ds f a → YieldsIf P ops S o v a
theorem yV {dst : Option Tmp} {op : Op} {ty : TypeId} {pos : String} {after : Array Edge} (hv : Val P n f S op ty v) : Yld P n ops f S ⟨dst, op, ty, pos, after, none⟩ v := fun a ha => .inl ⟨rfl, fun w hw => hv _ _ _ _ a w ha hw⟩
theorem yT {dst : Option Tmp} {op : Op} {ty : TypeId} {pos : String} {after : Array Edge} {j e : Nat} {b : Bool} (hj : (ops[j]?).bind (·.dst) = some e) (hg : get f e = some (.bool b)) (hv : Val P n f S op ty v) : Yld P n ops f S ⟨dst, op, ty, pos, after, some (j, b)⟩ v := fun a ha =>
  .inl ⟨wanted_yes ha hj hg, fun w hw => hv _ _ _ _ a w ha hw⟩
theorem yF {dst : Option Tmp} {op : Op} {ty : TypeId} {pos : String} {after : Array Edge} {j e : Nat} {b b' : Bool} (hj : (ops[j]?).bind (·.dst) = some e) (hg : get f e = some (.bool b')) (hne : (b' == b) = false) : Yld P n ops f S ⟨dst, op, ty, pos, after, some (j, b)⟩ undef := fun a ha =>
  .inr ⟨wanted_no ha hj hg hne, rfl⟩
/-- number i is taken first -/
theorem hTake (i : Nat) (hi : ops[i]? = some o) (ho : o.dst = some d) (hs : Region.noSelect ops = true) (hf : Region.free .any ops listed i = true) (hr : (Region.ready .any ops listed).contains i = true) (hv : Yld P n ops f S o v) (hd : Nat.blt d n = true)
    (h : FH P Q S n ds ops fuel (listed.setIfInBounds i true) ((d, v) :: f) w) : FH P Q S n ds ops (fuel + 1) listed f w := fun hS a ha => by
  refine wpAnyH_take hi hs hf hr (fun _ _ _ h => h) (hv a ha) hS ?_
  rw [ho]
  exact h hS _ (ha.put hd v)
theorem hTk (i : Nat) (hi : ops[i]? = some o) (ho : o.dst = some d) (hv : Yld P n ops f S o v) (hd : Nat.blt d n = true) (h : FH P Q S n ds ops fuel (listed.setIfInBounds i true) ((d, v) :: f) w)
    (hs : Region.noSelect ops = true := by kernel_rfl) (hf : Region.free .any ops listed i = true := by kernel_rfl) (hr : (Region.ready .any ops listed).contains i = true := by kernel_rfl) : FH P Q S n ds ops (fuel + 1) listed f w := hTake i hi ho hs hf hr hv hd h
/-- one operation of those that may come up, by its law for the text's order -/
theorem hOp (i : Nat) (hi : ops[i]? = some o) (h : FL P (Exit.then (fun a' w' => S w' ∧ wpAnyH P .any ops (NoPanic Q) S fuel (listed.setIfInBounds i true) a' w') (NoPanic Q)) n ds ops [o] f w) :
    ∀ a, Has n ds f a → wpOp P ops (NoPanic Q) i (fun a' w' => S w' ∧ wpAnyH P .any ops (NoPanic Q) S fuel (listed.setIfInBounds i true) a' w') a w := fun a ha => by
  have h := h a ha
  unfold wpOp
  simp only [hi]
  unfold wpList at h
  split at h
  · rename_i hw
    rw [if_pos hw]
    rcases h with h | h
    · refine .inl ?_
      unfold Oper.wp at h ⊢
      generalize (execOp a.eval o).run P w = r at h ⊢
      cases r with
      | ok nx w' =>
        cases nx <;> simp only [Oper.upon] at h ⊢
        case value u => exact h
        case skip => exact h
        case defer dd => exact h
        case enter g args => exact h.mono fun e w'' hh => by cases e <;> exact hh
        case row row args => exact h
      | halt x w' => cases x <;> simp only [Oper.upon] at h ⊢; case panic u => exact h
    · exact .inr h
  · rename_i hw
    rw [if_neg hw]
    exact h
theorem hNext (hS : S w) (h : FH P Q S n ds ops fuel listed f w) : FL P (Exit.then (fun a' w' => S w' ∧ wpAnyH P .any ops (NoPanic Q) S fuel listed a' w') (NoPanic Q)) n ds ops [] f w := fun a ha => ⟨hS, h hS a ha⟩
theorem hAll1 (i : Nat) (hr : Region.ready .any ops listed = [i])
    (h1 : ∀ a, Has n ds f a → wpOp P ops (NoPanic Q) i (fun a' w' => S w' ∧ wpAnyH P .any ops (NoPanic Q) S fuel (listed.setIfInBounds i true) a' w') a w) : FH P Q S n ds ops (fuel + 1) listed f w := fun hS a ha =>
  wpAnyH_all hr (by simp) fun j hj => by obtain rfl : j = i := by simpa using hj
                                         exact h1 a ha
theorem hAll2 (i k : Nat) (hr : Region.ready .any ops listed = [i, k])
    (h1 : ∀ a, Has n ds f a → wpOp P ops (NoPanic Q) i (fun a' w' => S w' ∧ wpAnyH P .any ops (NoPanic Q) S fuel (listed.setIfInBounds i true) a' w') a w)
    (h2 : ∀ a, Has n ds f a → wpOp P ops (NoPanic Q) k (fun a' w' => S w' ∧ wpAnyH P .any ops (NoPanic Q) S fuel (listed.setIfInBounds k true) a' w') a w) : FH P Q S n ds ops (fuel + 1) listed f w := fun hS a ha =>
  wpAnyH_all hr (by simp) fun j hj => by
    have hj : j = i ∨ j = k := by simpa using hj
    rcases hj with rfl | rfl
    · exact h1 a ha
    · exact h2 a ha
theorem hAll3 (i k l : Nat) (hr : Region.ready .any ops listed = [i, k, l])
    (h1 : ∀ a, Has n ds f a → wpOp P ops (NoPanic Q) i (fun a' w' => S w' ∧ wpAnyH P .any ops (NoPanic Q) S fuel (listed.setIfInBounds i true) a' w') a w)
    (h2 : ∀ a, Has n ds f a → wpOp P ops (NoPanic Q) k (fun a' w' => S w' ∧ wpAnyH P .any ops (NoPanic Q) S fuel (listed.setIfInBounds k true) a' w') a w)
    (h3 : ∀ a, Has n ds f a → wpOp P ops (NoPanic Q) l (fun a' w' => S w' ∧ wpAnyH P .any ops (NoPanic Q) S fuel (listed.setIfInBounds l true) a' w') a w) : FH P Q S n ds ops (fuel + 1) listed f w := fun hS a ha =>
  wpAnyH_all hr (by simp) fun j hj => by
    have hj : j = i ∨ j = k ∨ j = l := by simpa using hj
    rcases hj with rfl | rfl | rfl
    · exact h1 a ha
    · exact h2 a ha
    · exact h3 a ha
theorem hDone (hr : Region.ready .any ops listed = []) (h : FX n ds Q .normal f w) : FH P Q S n ds ops fuel listed f w := fun _ a ha => wpAnyH_done hr (NoPanic.normal (h a ha)) _
/-- reads in every world of the class -/
theorem hLd {t : TypeId} {ad : Addr} {x : Operand} {ty : TypeId} {wr : World} (ht : ScalT P t) (hx : ev f x = some (.pointer (some ad))) (hc : wr.cell? ad = some v) : Val P n f (Below wr.heap.size wr) (.load t x) ty v :=
  val_load ht hx (fun w' hb => by rw [hb.cell (World.block_lt_of_cell? wr ad hc)]; exact hc)
theorem hLdA {t : TypeId} {ad : Addr} {x : Operand} {ty : TypeId} {cs : List Value} {m : Nat} {wr : World} (ht : AggT P t m) (hx : ev f x = some (.pointer (some ad))) (hc : Rd wr (some ad) cs) (hm : cs.length = m) : Val P n f (Below wr.heap.size wr) (.load t x) ty (.agg cs.toArray) :=
  val_loadA ht hx (fun w' hb => hc.low hb) hm
end
end Fw
end Go.Proofs.Ytgpdodhegacndaa
