/- Rounds of a range over a function, in the frames of XGa: what is walked as everywhere serves within a round. No program is named here. -/
import Derived.Test.YtgpdodhegacndaaGi
import Derived.RangeFuncNested
import Derived.RangeFuncBound
import Derived.RangeFuncCalls
import Derived.RangeFuncLeaves
namespace Go.Proofs.Ytgpdodhegacndaa
set_option linter.unusedSimpArgs false
set_option linter.unusedVariables false
open Go.RowKit
namespace Fw
variable {ds : List Deferred}
/-- no operation is a defer statement -/
def noDefer : List Oper → Bool
  | [] => true
  | o :: l => (match o.op with | .defer _ => false | _ => true) && noDefer l
theorem noDefer_head {o : Oper} {l : List Oper} (h : noDefer (o :: l) = true) : (∀ c, o.op ≠ .defer c) ∧ noDefer l = true := by
  simp only [noDefer, Bool.and_eq_true] at h
  refine ⟨fun c hc => ?_, h.2⟩
  rw [hc] at h; simp at h
theorem noDefer_mem : ∀ {l : List Oper} (h : noDefer l = true) {i : Nat} {o : Oper}, l[i]? = some o → ∀ c, o.op ≠ .defer c
  | [], _, i, o, h => by simp at h
  | x :: l, h, 0, o, ho => by simp at ho; subst ho; exact (noDefer_head h).1
  | x :: l, h, i + 1, o, ho => noDefer_mem (noDefer_head h).2 (by simpa using ho)
section
variable {P : Program} {Q : Exit → Act → World → Prop} {ops : Array Oper} {a : Act} {w : World} {l m : Nat} {o : Oper}
theorem oper_round {next next' : Act → World → Prop} (hn : ∀ a w, next a w → next' a w) (hd : ∀ c, o.op ≠ .defer c) (h : Oper.wp P o a w next Q) : Oper.wpIn (Fence.wide.inRound l) m P o a w next' Q := by
  refine ⟨fun _ _ => trivial, ?_⟩
  rw [Oper.semAt_eq _ _ _ hd]
  unfold Oper.wp at h
  revert h
  generalize (execOp a.eval o).run P w = r
  intro h
  unfold Oper.upon at h
  unfold Oper.uponIn
  split at h
  · exact hn _ _ h
  · exact hn _ _ h
  · exact hn _ _ h
  · refine ⟨fun h => by simp [Fence.wide, Fence.inRound] at h, CallsIn.inRound l (callsIn_wide.2 (h.mono ?_))⟩
    intro e w' hR
    cases e with
    | returned v => exact hn _ _ hR
    | panicked ch => exact hR
    | outgrown => exact hR
  · refine ⟨fun h => by simp [Fence.wide, Fence.inRound] at h, fun c cs _ => ?_⟩
    obtain ⟨v, w', r, s⟩ := h c cs
    exact ⟨v, w', hn _ _ r, stepsIn_wide.2 s⟩
  · exact h
  · exact h.elim
theorem list_round (hL : ¬ LetsOut Q) : ∀ (xs : List Oper) (a : Act) (w : World), noDefer xs = true → wpList P ops Q xs a w → wpListIn (Fence.wide.inRound l) m P ops Q xs a w
  | [], a, w, _, h => h
  | o :: xs, a, w, hd, h => by
    obtain ⟨h1, h2⟩ := noDefer_head hd
    unfold wpList at h
    unfold wpListIn
    split at h
    · rename_i hw; rw [if_pos hw]
      rcases h with h | h
      · exact oper_round (fun a w h => list_round hL xs a w h2 h) h1 h
      · exact absurd h.2 hL
    · rename_i hw; rw [if_neg hw]; exact ⟨fun _ _ => trivial, list_round hL xs _ _ h2 h⟩
theorem ops_round (hL : ¬ LetsOut Q) (hd : noDefer ops.toList = true) : ∀ (xs : List Nat) (a : Act) (w : World), wpOps P ops Q xs a w → wpOpsIn (Fence.wide.inRound l) m P ops Q xs a w
  | [], a, w, h => h
  | i :: xs, a, w, h => by
    unfold wpOps at h
    unfold wpOpsIn
    split at h
    · rename_i hi; simp only [hi]; exact ops_round hL hd xs a w h
    · rename_i o hi
      simp only [hi]
      split at h
      · rename_i hw; rw [if_pos hw]
        rcases h with h | h
        · exact oper_round (fun a w h => ops_round hL hd xs a w h) (noDefer_mem hd (i := i) (by simpa using hi)) h
        · exact absurd h.2 hL
      · rename_i hw; rw [if_neg hw]; exact ⟨fun _ _ => trivial, ops_round hL hd xs _ _ h⟩
theorem any_round {id : Nat} (hL : ¬ LetsOut Q) (hd : noDefer ops.toList = true) (hm : P.follows .mixedOrders = true)
    (h : wpAny P .any ops Q ops.size (Array.replicate ops.size false) a { w with drawn := w.drawn + 1 }) : (Code.region id ops true).wpIn (Fence.wide.inRound l) m P Q a w :=
  wpIn_region_draw fun t => by
    simp only [Region.schedule, hm, Bool.true_or, if_true]
    exact ops_round hL hd _ _ _ (wpAny_sound ops.size t _ a _ h)
end
/-- nothing is let out -/
def NL (Q : Exit → Act → World → Prop) : Prop := ∀ a w, ¬ Q .outgrown a w
theorem NL.out {Q : Exit → Act → World → Prop} (h : NL Q) : ¬ LetsOut Q := fun ⟨a, w, hq⟩ => h a w hq
theorem NL.then {Q : Exit → Act → World → Prop} {K : Act → World → Prop} (h : NL Q) : NL (Exit.then K Q) := h
theorem NL.block {Q : Exit → Act → World → Prop} {id : Nat} (h : NL Q) : NL (Exit.inBlock id Q) := h
namespace R
/-- the code walks within a round from every act with the frame f -/
def RC (P : Program) (Q : Exit → Act → World → Prop) (n : Nat) (ds : List Deferred) (c : Code) (f : Fr) (w : World) : Prop := ∀ l m a, Has n ds f a → c.wpIn (Fence.wide.inRound l) m P Q a w
section
variable {P : Program} {Q : Exit → Act → World → Prop} {n : Nat} {f f' : Fr} {w w' : World} {x y : Code}
theorem RC.sub (hs : Sub f' f) (h : RC P Q n ds x f' w) : RC P Q n ds x f w := fun l m a ha => h l m a (ha.sub hs)
theorem seq (h : ∀ K : Act → World → Prop, (∀ f w, RC P Q n ds y f w → FX n ds (Exit.then K Q) .normal f w) → RC P (Exit.then K Q) n ds x f w) : RC P Q n ds (.seq x y) f w := fun l m a ha =>
  wpIn_seq (h (y.wpIn (Fence.wide.inRound l) m P Q) (fun f w hy a ha => hy l m a ha) l m a ha)
theorem seq_cut (F : Fr) (I : World → Prop) (hy : ∀ w, I w → RC P Q n ds y F w)
    (hx : ∀ K : Act → World → Prop, (∀ f w, I w → Sub F f → FX n ds (Exit.then K Q) .normal f w) → RC P (Exit.then K Q) n ds x f w) : RC P Q n ds (.seq x y) f w :=
  seq fun K hK => hx K fun f w hI hs => hK f w ((hy w hI).sub hs)
theorem region {id : Nat} {l : List Oper} (h : FL P Q n ds l.toArray l f w) (hL : NL Q) (hd : noDefer l = true := by rfl) : RC P Q n ds (.region id l.toArray false) f w := fun _ _ a ha => wpIn_region_lit (list_round hL.out l a w hd (h a ha))
theorem skip (h : FX n ds Q .normal f w) : RC P Q n ds .skip f w := fun _ _ a ha => wpIn_skip (h a ha)
theorem exit {id : Nat} (h : FX n ds Q (.exit id) f w) : RC P Q n ds (.exit id) f w := fun _ _ a ha => wpIn_exit (h a ha)
theorem condT {c : Operand} (hc : ev f c = some (.bool true)) (h : RC P Q n ds x f w) : RC P Q n ds (.cond c x y) f w := fun l m a ha => wpIn_cond_true (ha.eval hc) (h l m a ha)
theorem condF {c : Operand} (hc : ev f c = some (.bool false)) (h : RC P Q n ds y f w) : RC P Q n ds (.cond c x y) f w := fun l m a ha => wpIn_cond_false (ha.eval hc) (h l m a ha)
theorem block {id : Nat} (h : RC P (Exit.inBlock id Q) n ds x f w) : RC P Q n ds (.block id x) f w := fun l m a ha => wpIn_block (h l m a ha)
theorem regionQ {id : Nat} {l : List Oper} (hm : P.follows .mixedOrders = true) (hB : Region.lexB .any l.toArray = true)
    (h : FQ P (Below w.heap.size w) n ds l.toArray (fun a' => ∀ w', Below w.heap.size w w' → Q .normal a' w') l f) (hL : NL Q) (hd : noDefer l = true := by rfl) : RC P Q n ds (.region id l.toArray true) f w := fun _ _ a ha => by
  simp only [Region.lexB, Bool.and_eq_true] at hB
  refine any_round hL.out (by simpa using hd) hm (wpAny_of_quiet (C := Below w.heap.size w) (Q := fun a' => ∀ w', Below w.heap.size w w' → Q .normal a' w') (fun _ w' hw' h => h w' hw') _ _ _ _ ⟨rfl, rfl, rfl, Nat.le_refl _, fun _ _ => rfl⟩ ?_)
  have := wpAnyQ_lex (C := Below w.heap.size w) (md := .any) hB.1 l 0 (Array.replicate l.length false) a (by simp) (by simpa using hB.2) (h a ha)
  simpa using this
theorem regionHS {id : Nat} {l : List Oper} (S : World → Prop) (hm : P.follows .mixedOrders = true) (hS : S w.drew) (h : ∀ w', Below w.heap.size w w' → S w' → FH P Q S n ds l.toArray l.toArray.size (Array.replicate l.toArray.size false) f w') (hL : NL Q) (hd : noDefer l = true := by rfl) : RC P Q n ds (.region id l.toArray true) f w := fun _ _ a ha =>
  wpIn_mono (any_round (Q := NoPanic Q) (fun ⟨a, w, hq⟩ => hL a w hq) (by simpa using hd) hm (wpAny_of_held _ _ _ _ (h _ (drew_low w) hS hS a ha))) NoPanic.imp
end
end R
/-! ### a range over a function -/
/-- the deferred function that a range over a function leaves behind -/
def coll (D : Nat) : Deferred := { target := .collected D, args := #[] }
/-- the deferred functions of ranges over functions, none of which deferred anything -/
def DsOk (w : World) (B : Nat) (ds : List Deferred) : Prop := ∀ d ∈ ds, ∃ D, d = coll D ∧ B ≤ D ∧ w.heap[D]? = some (.deferred (some []))
theorem DsOk.nil (w : World) (B : Nat) : DsOk w B [] := fun d h => by cases h
theorem DsOk.cons {w : World} {B D : Nat} {ds : List Deferred} (hD : B ≤ D) (h : w.heap[D]? = some (.deferred (some []))) (hs : DsOk w B ds) : DsOk w B (coll D :: ds) := fun d hd => by
  rcases List.mem_cons.1 hd with rfl | hd
  · exact ⟨D, rfl, hD, h⟩
  · exact hs d hd
/-- one block that is no cells is turned, or blocks come up -/
theorem Kp.grown {ts : List TypeId} {w w' : World} {row : Option Nat} (hg : w.grownBy w' row) (hr : ∀ r, row = some r → ∃ o : Obj, w.heap[r]? = some o ∧ o.isCells = false) : Kp ts w w' :=
  ⟨hg.os, hg.tape, hg.output, hg.size, fun g t cs fr h _ => (hg.block g (Array.getElem?_eq_some_iff.1 h).1 (fun e => by obtain ⟨o, ho, hc⟩ := hr g e.symm; rw [h] at ho; cases ho; cases hc)).trans h⟩
theorem ownFrom_kp {β : Type} {B : Nat} {I : β → World → Prop} (h : ∀ s w w', I s w → Kp [] w w' → (∀ k, k < B → w'.heap[k]? = w.heap[k]?) → I s w') (hB : ∀ s w, I s w → B ≤ w.heap.size) : OwnFrom B I := fun s W W' row hs hg hr =>
  h s W W' hs (Kp.grown hg fun r e => (hr r e).2) fun k hk => hg.block k (Nat.lt_of_lt_of_le hk (hB s W hs)) (fun e => by have := (hr k e.symm).1; omega)
theorem _root_.Go.KeepsFrom.mono_ {B : Nat} {w w' : World} (h : KeepsFrom 0 w w') : KeepsFrom B w w' := ⟨h.size, fun k o _ hk ho => h.same k o (Nat.zero_le _) hk ho⟩
theorem kf_size {w w' : World} (h : KeepsFrom 0 w w') : w.heap.size ≤ w'.heap.size := h.size
theorem kf_low {w w' : World} (h : Below w.heap.size w w') : KeepsFrom 0 w w' := ⟨h.size, fun k o _ hk _ => by rw [h.block k (Array.getElem?_eq_some_iff.1 hk).1]; exact hk⟩
theorem kf_chg {g t : Nat} {cs : Array Value} {w w' : World} (h : Chg (· = g) w w') (hb : Blk w g t cs) : KeepsFrom 0 w w' := ⟨h.size, fun k o _ hk ho => by
  rw [h.block k (Array.getElem?_eq_some_iff.1 hk).1 (fun e => by subst e; unfold Blk at hb; rw [hb] at hk; injection hk with hk; subst hk; cases ho)]; exact hk⟩
theorem ownFrom_rng {β : Type} {B n₀ : Nat} {I : β → World → Prop} (hn : n₀ ≤ B) (hz : ∀ s w, I s w → n₀ ≤ w.heap.size) (h : ∀ s w w', I s w → Kp [] w w' → Below n₀ w w' → I s w') : OwnFrom B I := fun s W W' row hs hg hr =>
  h s W W' hs (Kp.grown hg fun r e => (hr r e).2) ((Below.refl n₀ W).grown hg (hz s W hs) (fun k e => Nat.le_trans hn (hr k e).1))
/-- how the body of a round is left -/
def rpost {α : Type} (n₀ : Nat) (I : List α → World → Prop) (Ix : Code → List α → World → Prop) (xs : List α) (W : World) : Exit → Act → World → Prop
  | .normal, _, W' => KeepsFrom 0 W W' ∧ Below n₀ W W' ∧ I xs W'
  | .ret, _, W' => KeepsFrom 0 W W' ∧ Ix .ret xs W'
  | .exit id, _, W' => KeepsFrom 0 W W' ∧ Ix (.exit id) xs W'
  | .goto t, _, W' => KeepsFrom 0 W W' ∧ Ix (.goto t) xs W'
  | .panic _, _, _ => False
  | .outgrown, _, _ => False
theorem rpost_G {α : Type} {B n₀ : Nat} {I : List α → World → Prop} {Ix : Code → List α → World → Prop} {xs : List α} {w W : World} (hk : KeepsFrom 0 w W) : ∀ (e : Exit) (a : Act) (W' : World), rpost n₀ I Ix xs W e a W' → ownPostG B (Below n₀) (fun xs W => I xs W ∧ KeepsFrom 0 w W) (fun c xs W => Ix c xs W ∧ KeepsFrom 0 w W) xs W e a W'
  | .normal, _, _, h => ⟨h.1.mono_, h.2.1, h.2.2, hk.trans h.1⟩
  | .ret, _, _, h => ⟨h.1.mono_, h.2, hk.trans h.1⟩
  | .exit _, _, _, h => ⟨h.1.mono_, h.2, hk.trans h.1⟩
  | .goto _, _, _, h => ⟨h.1.mono_, h.2, hk.trans h.1⟩
  | .panic _, _, _, h => h
  | .outgrown, _, _, h => h
section
variable {P : Program} {Q : Exit → Act → World → Prop} {n : Nat} {f : Fr} {w : World}
theorem range {α : Type} {x : Operand} {p d id : Nat} {ty : TypeId} {pos : String} {after : Array Edge} {body : Code} {gf : Nat} {lb : Array Value} {enc : α → Value} {n₀ : Nat} {S Sp : List α → Prop} {N : Nat} {w0 : World}
    (hx : ev f x = some (.func (.func gf) #[] lb)) (eg : CallT P gf) (hp : Nat.blt p n = true) (hd : Nat.blt d n = true) (hpd : Nat.beq d p = false)
    (hseq : SeqStopsK Fence.wide 1 P gf lb (fun x => #[enc x]) (Below n₀) S Sp N w0) (hb0 : Below w0.heap.size w0 w) (hn₀ : n₀ ≤ w.heap.size)
    (I : List α → World → Prop) (Ix : Code → List α → World → Prop) (hI : OwnFrom w.heap.size I) (hIx : ∀ c, OwnFrom w.heap.size (Ix c)) (h0 : I [] w)
    (hbody : ∀ pre x W, w.heap.size ≤ W.heap.size → I pre W → pre.length < N → R.RC P (rpost n₀ I Ix (pre ++ [x]) W) n [] body ((d, enc x) :: (p, enc x) :: f) W)
    (hdone : ∀ D xs W, w.heap.size ≤ D → S xs → I xs W → KeepsFrom 0 w W → W.heap[D]? = some (.deferred (some [])) → FX n (coll D :: ds) Q .normal f W)
    (hstop : ∀ D c pre W, w.heap.size ≤ D → Sp pre → Ix c pre W → KeepsFrom 0 w W → W.heap[D]? = some (.deferred (some [])) → FC P Q n (coll D :: ds) c f W) :
    FC P Q n ds (.rangeFunc x #[p] (.region id [⟨some d, .assign (.tmp p), ty, pos, after, none⟩].toArray false) body) f w := fun a ha => by
  have hp' : p < n := by simpa using hp
  have hput : ∀ v, Has n [] ((p, v) :: f) { tmps := a.tmps.setIfInBounds p v, defers := [] } := fun v => by
    have h1 : Has n [] f { tmps := a.tmps, defers := [] } := ⟨ha.size, rfl, ha.slots⟩
    exact h1.put hp v
  refine wpIn_wide.1 (wpIn_rangeFunc_ownH (n := 2) (F := Fence.wide) rfl (by omega) (ha.eval hx) trivial eg hseq (fun h k => h.trans k) (belowK_b hn₀) hb0 (fun _ => rfl) (fun xs W => I xs W ∧ KeepsFrom 0 w W) (fun c xs W => Ix c xs W ∧ KeepsFrom 0 w W) (hI.and (ownFrom_keepsFrom (Nat.le_refl _))) (fun c => (hIx c).and (ownFrom_keepsFrom (Nat.le_refl _))) ⟨h0, KeepsFrom.refl 0 w⟩
    (fun x a' _ => Has n [] ((d, enc x) :: (p, enc x) :: f) a') (fun _ _ _ _ _ _ h _ _ => h) ?_ ?_ ?_ ?_)
  · intro l pre x W K hi hK
    refine wpIn_region_lit ?_
    have e : { tmps := (#[p].zip #[enc x]).foldl (fun t (p, v) => t.setIfInBounds p v) a.tmps, defers := [] } = ({ tmps := a.tmps.setIfInBounds p (enc x), defers := [] } : Act) := by simp
    rw [e]
    have hh := hput (enc x)
    refine list_round (Q := Exit.then K (fun _ _ _ => False)) (fun ⟨a, w, h⟩ => h) _ _ _ rfl ?_
    refine s (Q := Exit.then K (fun _ _ _ => False)) (v := enc x) (val_assign (by simp [ev, get_cons])) hd (fun a' ha' => ?_) _ hh
    exact hK a' W (KeepsFrom.refl _ _) (Below.refl _ _) hi (by
      refine ⟨ha'.size, ha'.defers, fun k v hk => ha'.slots k v ?_⟩
      rw [get_cons] at hk ⊢
      split at hk
      · rename_i e; rw [if_pos e]
        rw [show enc x = v from by injection hk]
      · rename_i e; rw [if_neg e]; exact hk)
  · intro l pre x a' W hl hr hi hh hlen
    obtain ⟨r, hr⟩ := hr
    exact wpIn_mono (hbody pre x W (by have := (Array.getElem?_eq_some_iff.1 hr).1; omega) hi.1 hlen l _ a' hh) (rpost_G hi.2)
  · intro D xs W hD hS hi hk
    exact hdone D xs W hD hS hi.1 hi.2 hk _ ⟨ha.size, by show coll D :: a.defers = _; rw [ha.defers], ha.slots⟩
  · intro D c pre W hD hS hi hk
    exact wpIn_wide.2 (hstop D c pre W hD hS hi.1 hi.2 hk _ ⟨ha.size, by show coll D :: a.defers = _; rw [ha.defers], ha.slots⟩)
end
/-! ### function values -/
section
variable {P : Program} {Q : Exit → Act → World → Prop} {C : World → Prop} {n : Nat} {ops : Array Oper} {rest : List Oper} {f : Fr} {w : World} {d : Nat} {ty : TypeId} {pos : String} {after : Array Edge} {x y : Operand}
theorem val_func {fn : Fn} {first cap : List Operand} {vs us : List Value} (h1 : evs f first = some vs) (h2 : evs f cap = some us) : Val P n f C (.makeFunc fn first.toArray cap.toArray) ty (.func fn vs.toArray us.toArray) := fun _ _ _ _ a w ha _ => by
  unfold execOp
  simp only [Instr.makeFunc, List.map_toArray, ha.evals h1, ha.evals h2]
  simp
/-- a function value that names a function is called -/
theorem callV {ats : Array TypeId} {g : FuncId} {xs : List Operand} {first cap : Array Value} {vs : List Value} {args : Array Value} {R : Ending → World → Prop} (hg : CallT P g) (hf : ev f x = some (.func (.func g) first cap)) (hx : evs f xs = some vs) (hd : Nat.blt d n = true) (ha : first ++ vs.toArray ++ cap = args)
    (hc : Calls P g args w R) (h : ∀ e w', R e w' → ∃ v, e = .returned v ∧ FL P Q n ds ops rest ((d, v) :: f) w') :
    FL P Q n ds ops (⟨some d, .call ⟨.value x, xs.toArray, ats⟩, ty, pos, after, none⟩ :: rest) f w := fun a hh => by
  subst ha
  refine wpList_plain rfl fun K hK => ?_
  unfold Oper.wp
  have e1 : (execOp a.eval ⟨some d, .call ⟨.value x, xs.toArray, ats⟩, ty, pos, after, none⟩).run P w = .ok (.enter g (first ++ vs.toArray ++ cap)) w := by
    unfold execOp
    simp only [resolve, hh.eval hf, Deferred.ofValue, List.map_toArray, hh.evals hx, Sem.run_bind, Sem.run_pure, Result.andThen_ok, invoke]
    rw [hg]
  rw [e1]
  refine hc.mono fun e w' hR => ?_
  obtain ⟨v, rfl, h3⟩ := h e w' hR
  exact hK _ _ (h3 _ (hh.put hd _))
end
/-! ### a function that calls yield -/
section
variable {P : Program} {Q : Exit → Act → World → Prop} {n m : Nat} {ops : Array Oper} {rest : List Oper} {f : Fr} {w : World} {d : Nat} {ty : TypeId} {pos : String} {after : Array Edge} {x y : Operand}
def FI (P : Program) (Q : Exit → Act → World → Prop) (m n : Nat) (ds : List Deferred) (ops : Array Oper) (l : List Oper) (f : Fr) (w : World) : Prop := ∀ a, Has n ds f a → wpListIn Fence.wide m P ops Q l a w
theorem regionI {id : Nat} {l : List Oper} (m : Nat) (h : FI P Q m n ds l.toArray l f w) : FC P Q n ds (.region id l.toArray false) f w := fun a ha => wpIn_wide.1 (wpIn_region_lit (h a ha))
theorem oper_wide {o : Oper} {a : Act} {next next' : Act → World → Prop} (hn : ∀ a w, next a w → next' a w) (h : Oper.wp P o a w next Q) : Oper.wpIn Fence.wide m P o a w next' Q := by
  refine ⟨fun _ _ => trivial, ?_⟩
  show o.uponIn Fence.wide m P a next' Q ((o.semAt none a.eval).run P w)
  rw [Oper.semAt_none]
  unfold Oper.wp at h
  revert h
  generalize (execOp a.eval o).run P w = r
  intro h
  unfold Oper.upon at h
  unfold Oper.uponIn
  split at h
  · exact hn _ _ h
  · exact hn _ _ h
  · exact hn _ _ h
  · refine ⟨fun h => by simp [Fence.wide] at h, callsIn_wide.2 (h.mono ?_)⟩
    intro e w' hR
    cases e with
    | returned v => exact hn _ _ hR
    | panicked ch => exact hR
    | outgrown => exact hR
  · refine ⟨fun h => by simp [Fence.wide] at h, fun c cs _ => ?_⟩
    obtain ⟨v, w', r, s⟩ := h c cs
    exact ⟨v, w', hn _ _ r, stepsIn_wide.2 s⟩
  · exact h
  · exact h.elim
theorem list_wide (hL : ¬ LetsOut Q) : ∀ (xs : List Oper) (a : Act) (w : World), wpList P ops Q xs a w → wpListIn Fence.wide m P ops Q xs a w
  | [], a, w, h => h
  | o :: xs, a, w, h => by
    unfold wpList at h
    unfold wpListIn
    split at h
    · rename_i hw; rw [if_pos hw]
      rcases h with h | h
      · exact oper_wide (fun a w h => list_wide hL xs a w h) h
      · exact absurd h.2 hL
    · rename_i hw; rw [if_neg hw]; exact ⟨fun _ _ => trivial, list_wide hL xs _ _ h⟩
theorem FI.of (hL : NL Q) {l : List Oper} (h : FL P Q n ds ops l f w) : FI P Q m n ds ops l f w := fun a ha => list_wide hL.out _ a w (h a ha)
theorem sI {op : Op} {v : Value} (hv : Val P n f (· = w) op ty v) (hd : Nat.blt d n = true)
    (h : FI P Q m n ds ops rest ((d, v) :: f) w) : FI P Q m n ds ops (⟨some d, op, ty, pos, after, none⟩ :: rest) f w := fun a ha => by
  have h := h _ (ha.put hd v)
  refine wpListIn_plain rfl fun K hK => ?_
  refine oper_wide (next := K) (fun _ _ h => h) ?_
  unfold Oper.wp
  rw [hv (some d) pos after none a w ha rfl]
  exact hK _ _ h
theorem yieldI {ats : Array TypeId} {l : Nat} {xs : List Operand} {vs : List Value} {R : Ending → World → Prop} (hf : ev f x = some (.func (.yield l) #[] #[])) (hx : evs f xs = some vs) (hd : Nat.blt d n = true)
    (hc : YieldAt Fence.wide (m - 1) P l vs.toArray w R) (h : ∀ e w', R e w' → ∃ v, e = .returned v ∧ FI P Q m n ds ops rest ((d, v) :: f) w') :
    FI P Q m n ds ops (⟨some d, .call ⟨.value x, xs.toArray, ats⟩, ty, pos, after, none⟩ :: rest) f w := fun a hh => by
  refine wpListIn_plain rfl fun K hK => ?_
  obtain ⟨fn, tmps, assign, body, hy, hR⟩ := hc
  refine ⟨fun _ _ => trivial, ?_⟩
  have e1 : (execOp a.eval ⟨some d, .call ⟨.value x, xs.toArray, ats⟩, ty, pos, after, none⟩).run P w = .ok (.round l fn tmps assign body) w := by
    unfold execOp
    simp only [resolve, hh.eval hf, Deferred.ofValue, List.map_toArray, hh.evals hx, Sem.run_bind, Sem.run_pure, Result.andThen_ok, invoke]
    simpa using hy
  show Oper.uponIn Fence.wide m P _ a K Q ((Oper.semAt none a.eval _).run P w)
  rw [Oper.semAt_none, e1]
  refine ⟨fun h => by simp [Fence.wide] at h, hR.mono fun e w' hr => ?_⟩
  obtain ⟨v, rfl, h3⟩ := h e w' hr
  exact hK _ _ (h3 _ (hh.put hd _))
end
/-! ### leaving with marks -/
section
variable {P : Program} {fn : Func} {R : Ending → World → Prop} {f : Fr} {w : World} {n : Nat}
theorem callsM {g : FuncId} {c : Code} {vs : List Value} (hf : P.funcs[g]? = some fn) (hb : fn.body = some c) (hn : fn.ntmps = n) (hl : Nat.ble vs.length n = true)
    (h : FC P (bodyPostM Fence.wide 1 P fn R) n [] c (frOf 0 vs) w) : Calls P g vs.toArray w R := by
  subst hn
  refine callsIn_wide.1 (callsIn_of_wp_marks (n := 1) hf hb trivial (wpIn_wide.2 (h _ ?_)))
  have := Has.start (args := vs) (n := fn.ntmps) (by simpa using hl) (f := frOf 0 vs) (fun k v hk => by simpa using (get_frOf vs 0 k v hk).2)
  simpa using this
/-- marks, each of a block of its own -/
def Marks (w : World) (B : Nat) (ds : List Deferred) : Prop := DsOk w B ds ∧ ds.Nodup
theorem Marks.nil (w : World) (B : Nat) : Marks w B [] := ⟨DsOk.nil w B, List.nodup_nil⟩
theorem Marks.low {w w' : World} {B : Nat} {ds : List Deferred} (h : Marks w B ds) (hb : Below w.heap.size w w') : Marks w' B ds := ⟨fun d hd => by
  obtain ⟨D, e, h1, h2⟩ := h.1 d hd
  exact ⟨D, e, h1, by rw [hb.block D (Array.getElem?_eq_some_iff.1 h2).1]; exact h2⟩, h.2⟩
theorem Marks.keep {w w' : World} {B : Nat} {ds : List Deferred} (h : Marks w B ds) (hk : KeepsFrom B w w') : Marks w' B ds := ⟨fun d hd => by
  obtain ⟨D, e, h1, h2⟩ := h.1 d hd
  exact ⟨D, e, h1, hk.same D _ h1 h2 rfl⟩, h.2⟩
theorem Marks.chg {w w' : World} {B : Nat} {ds : List Deferred} {S : Nat → Prop} (h : Marks w B ds) (hc : Chg S w w') (hS : ∀ k, S k → ∀ o, w.heap[k]? = some o → o.isCells = true) : Marks w' B ds := ⟨fun d hd => by
  obtain ⟨D, e, h1, h2⟩ := h.1 d hd
  exact ⟨D, e, h1, by rw [hc.block D (Array.getElem?_eq_some_iff.1 h2).1 (fun hs => by have := hS D hs _ h2; cases this)]; exact h2⟩, h.2⟩
theorem Marks.cons {w : World} {B D : Nat} {ds : List Deferred} (hD : B ≤ D) (h : w.heap[D]? = some (.deferred (some []))) (hs : Marks w B ds) (hn : coll D ∉ ds) : Marks w B (coll D :: ds) := ⟨hs.1.cons hD h, List.nodup_cons.2 ⟨hn, hs.2⟩⟩
theorem Marks.push {w W : World} {B D : Nat} {ds : List Deferred} (h : Marks w B ds) (hB : B ≤ w.heap.size) (hk : KeepsFrom 0 w W) (hD : w.heap.size ≤ D) (hd : W.heap[D]? = some (.deferred (some []))) : Marks W B (coll D :: ds) :=
  (h.keep hk.mono_).cons (Nat.le_trans hB hD) hd fun hm => by
    obtain ⟨D', e, _, h2⟩ := h.1 _ hm
    have e : D = D' := by unfold coll at e; injection e with e; injection e
    have := (Array.getElem?_eq_some_iff.1 h2).1
    omega
theorem putObj_kp {w : World} {D : Nat} {o o' : Obj} (h : w.heap[D]? = some o) (ho : o.isCells = false) : Kp [] w (w.putObj D o') := Kp.grown (grownBy_putObj' w D o') (fun r e => by cases e; exact ⟨o, h, ho⟩)
theorem leaves {rs : List ResultVar} {vs : List Value} {a : Act} {B : Nat} (hr : fn.results = rs.toArray) : ∀ (ds : List Deferred) (w : World), Marks w B ds → B ≤ w.heap.size → (∀ w', Kp [] w w' → Below B w w' → (results fn a.tmps).run P w' = .ok (tup vs) w' ∧ R (.returned (tup vs)) w') → LeavesInM Fence.wide 1 P fn a.tmps R ds .returning w
  | [], w, _, hB, h => ⟨_, h w (Kp.refl _ _) (Below.refl _ _)⟩
  | d :: ds, w, hm, hB, h => by
    obtain ⟨D, rfl, h1, h2⟩ := hm.1 d (List.mem_cons_self ..)
    have hsz : (w.putObj D (.deferred none)).heap.size = w.heap.size := by simp [World.putObj]
    have hb : Below B w (w.putObj D (.deferred none)) := (Below.refl B w).grown (grownBy_putObj' w D _) hB (fun k e => by cases e; exact h1)
    refine ⟨by simp, .inl ⟨D, _, rfl, run_takeDeferred h2, ?_⟩⟩
    refine leaves hr ds _ ⟨fun e he => ?_, (List.nodup_cons.1 hm.2).2⟩ (by omega) (fun w' hk hb' => h w' ((putObj_kp h2 rfl).trans hk) (hb.trans hb'))
    obtain ⟨D', rfl, h3, h4⟩ := hm.1 e (List.mem_cons_of_mem _ he)
    have hne : D ≠ D' := fun e' => (List.nodup_cons.1 hm.2).1 (by rw [e']; exact he)
    exact ⟨D', rfl, h3, (World.putObj_heap_other (by omega)).trans h4⟩
theorem retM {B : Nat} (rs : List ResultVar) (vs : List Value) (hr : fn.results = rs.toArray) (hm : Marks w B ds) (hB : B ≤ w.heap.size) (h : ∀ w', Kp [] w w' → Below B w w' → ResL P f w' rs vs ∧ R (.returned (tup vs)) w') : FX n ds (bodyPostM Fence.wide 1 P fn R) .ret f w := fun a ha => by
  show LeavesInM Fence.wide 1 P fn a.tmps R a.defers .returning w
  rw [ha.defers]
  exact leaves hr ds w hm hB fun w' hk hb => ⟨results_run ha hr (h w' hk hb).1, (h w' hk hb).2⟩
theorem endM {B : Nat} (rs : List ResultVar) (vs : List Value) (hr : fn.results = rs.toArray) (hm : Marks w B ds) (hB : B ≤ w.heap.size) (h : ∀ w', Kp [] w w' → Below B w w' → ResL P f w' rs vs ∧ R (.returned (tup vs)) w') : FX n ds (bodyPostM Fence.wide 1 P fn R) .normal f w := fun a ha => by
  show LeavesInM Fence.wide 1 P fn a.tmps R a.defers .returning w
  rw [ha.defers]
  exact leaves hr ds w hm hB fun w' hk hb => ⟨results_run ha hr (h w' hk hb).1, (h w' hk hb).2⟩
/-- where nothing stands deferred -/
theorem ret0 (rs : List ResultVar) (vs : List Value) (hr : fn.results = rs.toArray) (h : ResL P f w rs vs) (hR : R (.returned (tup vs)) w) : FX n [] (bodyPostM Fence.wide 1 P fn R) .ret f w := fun a ha => by
  show LeavesInM Fence.wide 1 P fn a.tmps R a.defers .returning w
  rw [ha.defers]
  exact ⟨_, results_run ha hr h, hR⟩
end
/-! ### a loop whose rounds may leave marks -/
section
variable {P : Program} {Q : Exit → Act → World → Prop} {n : Nat} {f f' : Fr} {w w' : World} {x y : Code}
theorem loopM (R : Nat → List Deferred → Fr → World → Prop) (h0 : ∃ m f', R m ds f' w ∧ Sub f' f)
    (round : ∀ m ds f w, R m ds f w → FC P (Exit.then (fun a' w' => ∃ m' ds' f', m' < m ∧ R m' ds' f' w' ∧ Has n ds' f' a') Q) n ds x f w) : FC P Q n ds (.loop x) f w := by
  intro a ha
  obtain ⟨m, f', hR, hs⟩ := h0
  refine wp_loop (fun a w => ∃ m ds f', R m ds f' w ∧ Has n ds f' a) (fun a w => least fun m => ∃ ds f', R m ds f' w ∧ Has n ds f' a) ⟨m, ds, f', hR, ha.sub hs⟩ ?_
  rintro a w ⟨m0, ds0, f0, hR0, ha0⟩
  obtain ⟨⟨ds1, f1, hR1, ha1⟩, -⟩ := least_spec (p := fun m => ∃ ds f', R m ds f' w ∧ Has n ds f' a) ⟨ds0, f0, hR0, ha0⟩
  refine Code.wp_mono ?_ (round _ ds1 f1 w hR1 a ha1)
  intro e a' w' h
  cases e with
  | normal =>
    obtain ⟨m', ds', f', hlt, hR', ha'⟩ := h
    exact ⟨⟨m', ds', f', hR', ha'⟩, Nat.lt_of_le_of_lt (least_spec (p := fun m => ∃ ds f', R m ds f' w' ∧ Has n ds f' a') ⟨ds', f', hR', ha'⟩).2 hlt⟩
  | _ => exact h
theorem roundEndM {R : Nat → List Deferred → Fr → World → Prop} {m : Nat} (m' : Nat) (f' : Fr) (hlt : m' < m) (hR : R m' ds f' w) (hs : Sub f' f) : FX n ds (Exit.then (fun a' w' => ∃ m' ds' f', m' < m ∧ R m' ds' f' w' ∧ Has n ds' f' a') Q) .normal f w :=
  fun a ha => ⟨m', ds, f', hlt, hR, ha.sub hs⟩
end
/-- the test itself was not wanted: in a drawn region -/
theorem gUQ {P : Program} {C : World → Prop} {n : Nat} {ds : List Deferred} {ops : Array Oper} {K : Act → Prop} {rest : List Oper} {f : Fr} {d0 : Nat} {op : Op} {ty : TypeId} {pos : String} {after : Array Edge} {j d : Nat} {b : Bool} (hj : (ops[j]?).bind (·.dst) = some d) (hg : get f d = some undef) (hd : Nat.blt d0 n = true)
    (h : FQ P C n ds ops K rest ((d0, undef) :: f)) : FQ P C n ds ops K (⟨some d0, op, ty, pos, after, some (j, b)⟩ :: rest) f := fun a ha => by
  have h := h _ (ha.put hd undef)
  unfold wpQuiet
  rw [if_neg (by rw [wanted_un ha hj hg]; simp)]
  exact h
/-- a cut with letters of its own -/
theorem seq_cutE {P : Program} {Q : Exit → Act → World → Prop} {n : Nat} {ds : List Deferred} {f : Fr} {w : World} {x y : Code} {α : Type} (F : α → Fr) (I : α → World → Prop) (hy : ∀ z w, I z w → FC P Q n ds y (F z) w)
    (hx : ∀ K : Act → World → Prop, (∀ f w z, I z w → Sub (F z) f → FX n ds (Exit.then K Q) .normal f w) → FC P (Exit.then K Q) n ds x f w) : FC P Q n ds (.seq x y) f w :=
  seq fun K hK => hx K fun f w z hI hs => hK f w ((hy z w hI).sub hs)
end Fw
end Go.Proofs.Ytgpdodhegacndaa
