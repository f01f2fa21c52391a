/- Loads by the facts on memory that a walk carries; bools that are terms; parts of slices. No program is named here. -/
import Derived.Test.YtgpdodhegacndaaGc
namespace Go.Proofs.Ytgpdodhegacndaa
set_option linter.unusedSimpArgs false
set_option linter.unusedVariables false
open Go.RowKit
namespace Fw
variable {ds : List Deferred}
theorem rdBlk {w : World} {g : Nat} {t : TypeId} {cs : Array Value} (h : Blk w g t cs) : Rd w (some ⟨g, 0, none⟩) cs.toList := fun j v hj => ⟨_, rfl, by rw [add_flat, Nat.zero_add, h.cell]; simpa using hj⟩
theorem rdCell {w : World} {b o : Nat} {cs : List Value} {v : Value} (h : Rd w (some ⟨b, o, none⟩) cs) (i : Nat) (hi : cs[i]? = some v) : w.cell? ⟨b, o + i, none⟩ = some v := by
  obtain ⟨ad, e, hc⟩ := h i v hi
  injection e with e; subst e
  rw [add_flat] at hc; exact hc
theorem rdAt {T : Type} {cells : T → List Value} {m : Nat} (hm : ∀ x, (cells x).length = m) (h0 : 0 < m) {w : World} {A : Option Addr} {l : List T} (h : Rd w A (l.flatMap cells)) (k : Nat) (hk : k < l.length) :
    ∃ ad b o, A = some ad ∧ ad.add (k * m) = ⟨b, o, none⟩ ∧ Rd w (some ⟨b, o, none⟩) (cells l[k]) := by
  have len : ∀ l : List T, (l.flatMap cells).length = l.length * m := by
    intro l
    induction l with
    | nil => simp
    | cons a l ih => rw [List.flatMap_cons, List.length_append, hm, ih, List.length_cons, Nat.add_mul]; omega
  have at_ : ∀ (l : List T) (k j : Nat) (hk : k < l.length) (u : Value), (cells l[k])[j]? = some u → (l.flatMap cells)[k * m + j]? = some u := by
    intro l
    induction l with
    | nil => intro k j hk; exact absurd hk (by simp)
    | cons a l ih =>
      intro k j hk u hu
      rw [List.flatMap_cons]
      cases k with
      | zero =>
        have hj : j < (cells a).length := (List.getElem?_eq_some_iff.1 hu).1
        rw [Nat.zero_mul, Nat.zero_add, List.getElem?_append_left hj]; exact hu
      | succ k =>
        rw [List.getElem?_append_right (by rw [hm, Nat.add_mul]; omega), hm, show (k + 1) * m + j - m = k * m + j by rw [Nat.add_mul]; omega]
        exact ih k j (by simpa using hk) u hu
  have c0 : (cells l[k])[0]? = some ((cells l[k])[0]'(by rw [hm]; exact h0)) := List.getElem?_eq_getElem _
  obtain ⟨ad, hA, hc⟩ := h _ _ (at_ l k 0 hk _ c0)
  obtain ⟨bl, of, sp, had⟩ : ∃ bl of sp, ad.add (k * m) = ⟨bl, of, sp⟩ := ⟨_, _, _, rfl⟩
  have hsp : sp = none := by
    rw [Nat.add_zero, had] at hc
    simpa using World.cell?_spot hc
  subst hsp
  refine ⟨ad, bl, of, hA, had, fun j v hj => ⟨_, rfl, ?_⟩⟩
  obtain ⟨ad', hA', hc'⟩ := h _ _ (at_ l k j hk v hj)
  rw [hA] at hA'; injection hA' with hA'; subst hA'
  rw [← had, add_of_add]; exact hc'
/-- slices of single cells -/
theorem rdAtM {T : Type} {c : T → Value} {w : World} {A : Option Addr} {l : List T} (h : Rd w A (l.map c)) (k : Nat) (hk : k < l.length) :
    ∃ ad b o, A = some ad ∧ ad.add (k * 1) = ⟨b, o, none⟩ ∧ w.cell? ⟨b, o, none⟩ = some (c l[k]) := by
  obtain ⟨ad, hA, hc⟩ := h k (c l[k]) (by simp [hk])
  obtain ⟨bl, of, sp, had⟩ : ∃ bl of sp, ad.add k = ⟨bl, of, sp⟩ := ⟨_, _, _, rfl⟩
  have hsp : sp = none := by rw [had] at hc; simpa using World.cell?_spot hc
  subst hsp
  exact ⟨ad, bl, of, hA, by rw [Nat.mul_one]; exact had, by rw [← had]; exact hc⟩
/-- a literal just made, as a row of the call's own -/
theorem ownBlk {w : World} {g base n size : Nat} {e : TypeId} {cs : Array Value} (h : Blk w g e cs) (hb : base ≤ g) (hn : n ≤ maxLen) (hs : cs.size = n * size) : w.ownsRow base e size (.slice (some ⟨g, 0, none⟩) n n) n cs.toList :=
  ⟨by simpa using hs, .inr ⟨g, n, cs, rfl, hb, h, Nat.le_refl _, hn, hs, by rw [← hs, ← Array.length_toList, List.take_length]⟩⟩
theorem ownBlk_ne {g g' o n c : Nat} (h : g ≠ g') : ¬ some g = (Value.slice (some ⟨g', o, none⟩) n c).ownBlock := fun e => h (by simpa [Value.ownBlock] using e)
/-- blocks of other types than these are as they were -/
structure Kp (ts : List TypeId) (w w' : World) : Prop where
  os : w'.os = w.os
  tape : w'.tape = w.tape
  output : w'.output = w.output
  size : w.heap.size ≤ w'.heap.size
  keep : ∀ (g : Nat) (t : TypeId) (cs : Array Value) (fr : Nat × Nat), w.heap[g]? = some (Obj.cells cs t fr) → ts.contains t = false → w'.heap[g]? = some (Obj.cells cs t fr)
theorem Kp.refl (ts : List TypeId) (w : World) : Kp ts w w := ⟨rfl, rfl, rfl, Nat.le_refl _, fun _ _ _ _ h _ => h⟩
theorem Kp.trans {ts : List TypeId} {a b c : World} (h : Kp ts a b) (h' : Kp ts b c) : Kp ts a c := ⟨h'.os.trans h.os, h'.tape.trans h.tape, h'.output.trans h.output, Nat.le_trans h.size h'.size, fun g t cs fr hg ht => h'.keep g t cs fr (h.keep g t cs fr hg ht) ht⟩
theorem Kp.low {ts : List TypeId} {a b c : World} (h : Kp ts a b) (hb : Below b.heap.size b c) : Kp ts a c := h.trans ⟨hb.os, hb.tape, hb.output, hb.size, fun g t cs fr hg _ => by
  rw [hb.block g (by rcases Nat.lt_or_ge g b.heap.size with h | h
                     · exact h
                     · rw [Array.getElem?_eq_none h] at hg; cases hg)]; exact hg⟩
theorem Kp.chg {ts : List TypeId} {S : Nat → Prop} {a b c : World} (h : Kp ts a b) (hc : Chg S b c) (hS : ∀ (g : Nat) (t : TypeId) (cs : Array Value) (fr : Nat × Nat), b.heap[g]? = some (Obj.cells cs t fr) → ts.contains t = false → ¬ S g) : Kp ts a c := h.trans ⟨hc.os, hc.tape, hc.output, hc.size, fun g t cs fr hg ht => by
  rw [hc.block g (by rcases Nat.lt_or_ge g b.heap.size with h | h
                     · exact h
                     · rw [Array.getElem?_eq_none h] at hg; cases hg) (hS g t cs fr hg ht)]; exact hg⟩
theorem Kp.one {ts : List TypeId} {a b c : World} {g : Nat} {t : TypeId} {cs : Array Value} (h : Kp ts a b) (hc : Chg (· = g) b c) (hg : Blk b g t cs) (ht : ts.contains t = true) : Kp ts a c := h.chg hc fun g' t' cs' fr' hg' ht' e => by
  subst e
  unfold Blk at hg
  rw [hg] at hg'
  injection hg' with hg'
  injection hg' with _ e _
  subst e
  rw [ht] at ht'; cases ht'
/-- append onto a row of elements of such a type -/
theorem Kp.row {ts : List TypeId} {a b c : World} {base e size k : Nat} {sv : Value} {xs : List Value} (h : Kp ts a b) (hc : Chg (fun g => some g = sv.ownBlock) b c) (ho : b.ownsRow base e size sv k xs) (ht : ts.contains e = true) : Kp ts a c := h.chg hc fun g' t' cs' fr' hg' ht' e => by
  rcases ho.2 with ⟨rfl, _⟩ | ⟨g, cap, cur, rfl, _, hh, _⟩
  · simp [Value.ownBlock] at e
  · have e : g' = g := by simpa [Value.ownBlock] using e
    subst e
    rw [hh] at hg'
    injection hg' with hg'
    injection hg' with _ e _
    subst e
    rw [ht] at ht'; cases ht'
theorem _root_.Go.Proofs.Ytgpdodhegacndaa.Blk.kp {ts : List TypeId} {w w' : World} {g : Nat} {t : TypeId} {cs : Array Value} (h : Blk w g t cs) (hk : Kp ts w w') (ht : ts.contains t = false) : Blk w' g t cs := hk.keep g t cs _ h ht
theorem own_kp {ts : List TypeId} {w w' : World} {base e size k : Nat} {sv : Value} {xs : List Value} (h : w.ownsRow base e size sv k xs) (hk : Kp ts w w') (ht : ts.contains e = false) : w'.ownsRow base e size sv k xs := by
  refine ⟨h.1, ?_⟩
  rcases h.2 with h | ⟨g, cap, cur, rfl, hg, hh, h⟩
  · exact .inl h
  · exact .inr ⟨g, cap, cur, rfl, hg, hk.keep g _ _ _ hh ht, h⟩
theorem b_and {P : Program} {t : TypeId} {x y : Operand} {k : IntKind} {a b r : Int} (h : bits .and k a b = r) : Bin P .and t x y (.int k a) (.int k b) (.int k r) := b_bits (fun w => by rw [intBits_and, h]; rfl) (.inl rfl)
theorem b_or {P : Program} {t : TypeId} {x y : Operand} {k : IntKind} {a b r : Int} (h : bits .or k a b = r) : Bin P .or t x y (.int k a) (.int k b) (.int k r) := b_bits (fun w => by rw [intBits_or, h]; rfl) (.inr (.inl rfl))
theorem b_xor {P : Program} {t : TypeId} {x y : Operand} {k : IntKind} {a b r : Int} (h : bits .xor k a b = r) : Bin P .xor t x y (.int k a) (.int k b) (.int k r) := b_bits (fun w => by rw [intBits_xor, h]; rfl) (.inr (.inr (.inl rfl)))
/-- shifts by a constant: c is the power of two -/
theorem b_shlC {P : Program} {t : TypeId} {x y : Operand} {k yk : IntKind} {a b r : Int} (c : Int) (hb : 0 ≤ b) (hc : (2 : Int) ^ min b.toNat k.bits = c) (h : k.wrap (a * c) = r) : Bin P .shl t x y (.int k a) (.int yk b) (.int k r) := b_shl hb (by rw [hc]; exact h)
theorem b_shrC {P : Program} {t : TypeId} {x y : Operand} {k yk : IntKind} {a b r : Int} (c : Int) (hb : 0 ≤ b) (hc : (2 : Int) ^ min b.toNat k.bits = c) (h0 : 0 ≤ c) (h : a / c = r) : Bin P .shr t x y (.int k a) (.int yk b) (.int k r) := b_shr hb (by rw [hc, Int.fdiv_eq_ediv_of_nonneg _ h0]; exact h)
/-- s[:m], s[k:] -/
theorem sliceTo_run {P : Program} {t e : TypeId} {s : Nat} (ht : P.underlying t = some (.slice e)) (hs : SizeT P e s) (A : Option Addr) (len cap m : Nat) (hm : m ≤ cap) (w : World) (kh : IntKind) : (Instr.sliceAt t (.slice A len cap) none (some (.int kh (m : Int))) none).run P w = .ok (.slice A m cap) w := by
  have hE : P.elem t = e := by simp [Program.elem, ht]
  have ht' : P.underlying t = some (.slice (P.elem t)) := by rw [hE]; exact ht
  rw [run_sliceAt_slice w t _ _ _ _ ht', run_slice_h w t A len cap ht' kh m (by omega) (by omega)]
  have := hs w
  rw [hE, this]
  simp only [Result.andThen_ok, sliced, Int.toNat_natCast, Nat.zero_mul, Nat.sub_zero]
  congr 2
  cases A with
  | none => simp
  | some a => simp [Addr.add]
theorem sliceFrom_run {P : Program} {t e : TypeId} {s : Nat} (ht : P.underlying t = some (.slice e)) (hs : SizeT P e s) (A : Option Addr) (len cap k : Nat) (hk : k ≤ len) (w : World) (kl : IntKind) : (Instr.sliceAt t (.slice A len cap) (some (.int kl (k : Int))) none none).run P w = .ok (.slice (cutA A cap k s) (len - k) (cap - k)) w := by
  have hE : P.elem t = e := by simp [Program.elem, ht]
  have ht' : P.underlying t = some (.slice (P.elem t)) := by rw [hE]; exact ht
  rw [run_sliceAt_slice w t _ _ _ _ ht', run_slice_l w t A len cap ht' kl k (by omega) (by omega)]
  have := hs w
  rw [hE, this]
  simp [sliced, cutA]
section
variable {P : Program} {n : Nat} {f : Fr} {C : World → Prop} {ty : TypeId} {x y : Operand}
theorem val_sliceTo {t e : TypeId} {s len cap m : Nat} {A : Option Addr} {k : IntKind} {i : Int} (ht : P.underlying t = some (.slice e)) (hs : SizeT P e s) (hx : ev f x = some (.slice A len cap)) (hi : ev f y = some (.int k i)) (hm : i = (m : Nat)) (hle : m ≤ cap) :
    Val P n f C (.slice t x none (some y) none) ty (.slice A m cap) := fun _ _ _ _ a w ha _ => by
  subst hm
  unfold execOp; simp only [ha.eval hx, ha.eval hi, Option.map_some, Option.map_none]
  simp [sliceTo_run ht hs A len cap m hle w k]
theorem val_sliceFrom {t e : TypeId} {s len cap m : Nat} {A : Option Addr} {k : IntKind} {i : Int} (ht : P.underlying t = some (.slice e)) (hs : SizeT P e s) (hx : ev f x = some (.slice A len cap)) (hi : ev f y = some (.int k i)) (hm : i = (m : Nat)) (hle : m ≤ len) :
    Val P n f C (.slice t x (some y) none none) ty (.slice (cutA A cap m s) (len - m) (cap - m)) := fun _ _ _ _ a w ha _ => by
  subst hm
  unfold execOp; simp only [ha.eval hx, ha.eval hi, Option.map_some, Option.map_none]
  simp [sliceFrom_run ht hs A len cap m hle w k]
end
/-- reads of a slice whose array is of a known type -/
def RdT (w : World) (ty : TypeId) (A : Option Addr) (l : List Value) : Prop := Rd w A l ∧ ∀ ad, A = some ad → ∃ cs fr, w.heap[ad.block]? = some (Obj.cells cs ty fr)
theorem RdT.nil (w : World) (ty : TypeId) : RdT w ty none [] := ⟨Rd.nil _ _, fun _ e => by cases e⟩
theorem RdT.own {w : World} {base e size n c : Nat} {A : Option Addr} {xs : List Value} (h : w.ownsRow base e size (.slice A n c) n xs) : RdT w e A xs := ⟨Rd.of_own h, fun ad e' => by
  rcases h.2 with ⟨h1, _⟩ | ⟨g, cap, cur, h1, _, hh, _⟩
  · injection h1 with h1; rw [h1] at e'; cases e'
  · injection h1 with h1; rw [h1] at e'; injection e' with e'; subst e'; exact ⟨cur, _, hh⟩⟩
theorem RdT.low {w w' : World} {ty : TypeId} {A : Option Addr} {l : List Value} (h : RdT w ty A l) (hb : Below w.heap.size w w') : RdT w' ty A l := ⟨h.1.low hb, fun ad e => by
  obtain ⟨cs, fr, hh⟩ := h.2 ad e
  refine ⟨cs, fr, ?_⟩
  rw [hb.block _ ?_]; exact hh
  rcases Nat.lt_or_ge ad.block w.heap.size with h | h
  · exact h
  · rw [Array.getElem?_eq_none h] at hh; cases hh⟩
theorem RdT.kp {ts : List TypeId} {w w' : World} {ty : TypeId} {A : Option Addr} {l : List Value} (h : RdT w ty A l) (hk : Kp ts w w') (ht : ts.contains ty = false) : RdT w' ty A l := by
  have same : ∀ ad, A = some ad → w'.heap[ad.block]? = w.heap[ad.block]? := fun ad e => by
    obtain ⟨cs, fr, h7⟩ := h.2 ad e
    rw [h7]; exact hk.keep _ _ _ _ h7 ht
  refine ⟨h.1.keep (fun p' _ h => ?_), fun ad e => by rw [same ad e]; exact h.2 ad e⟩
  obtain ⟨ad, e, hb⟩ := h
  exact World.cell?_of_block (by rw [hb]; exact same ad e)
/-- a cell of a row of the call's own -/
theorem own_at {w : World} {base e size k : Nat} {g c : Nat} {xs : List Value} (h : w.ownsRow base e size (.slice (some ⟨g, 0, none⟩) k c) k xs) : ∃ cur, Blk w g e cur ∧ cur.size = c * size ∧ k ≤ c ∧ c ≤ maxLen ∧ cur.toList.take (k * size) = xs ∧ base ≤ g := by
  rcases h.2 with ⟨h1, _⟩ | ⟨g', cap, cur, h1, hb, hh, h2, h3, h4, h5⟩
  · cases h1
  · injection h1 with a b d; injection a with a; injection a with a; subst a d
    exact ⟨cur, hh, h4, h2, h3, h5, hb⟩
theorem own_form0 {w : World} {base e size k : Nat} {A : Option Addr} {c : Nat} {xs : List Value} (h : w.ownsRow base e size (.slice A k c) k xs) (hk : 0 < k) : ∃ g, A = some ⟨g, 0, none⟩ ∧ base ≤ g ∧ g < w.heap.size := by
  obtain ⟨g, cap, hv, h1, h2⟩ := h.form hk
  injection hv with hv
  exact ⟨g, hv, h1, h2⟩
section
variable {P : Program} {Q : Exit → Act → World → Prop} {n : Nat} {ops : Array Oper} {rest : List Oper} {f : Fr} {w : World} {d : Nat} {ty : TypeId} {pos : String} {after : Array Edge} {x y : Operand} {v : Value}
/-- a cell of a row of the call's own is written -/
theorem storeR {t : TypeId} {base e size k g c i : Nat} {xs : List Value} (hs : SizeT P t 1) (hx : ev f x = some (.pointer (some ⟨g, i, none⟩))) (hy : ev f y = some v) (ho : w.ownsRow base e size (.slice (some ⟨g, 0, none⟩) k c) k xs) (hi : i < xs.length) (hv : v.cells = #[v]) (h1 : v.oneCell' = true)
    (h : ∀ w', w'.ownsRow base e size (.slice (some ⟨g, 0, none⟩) k c) k (xs.set i v) → Chg (· = g) w w' → FL P Q n ds ops rest f w') : FL P Q n ds ops (⟨none, .store t x y, ty, pos, after, none⟩ :: rest) f w := by
  obtain ⟨cur, hb, h4, h2, h3, h5, hbase⟩ := own_at ho
  have hkl : xs.length = k * size := ho.1
  have hic : i < cur.size := by
    rw [h4]; exact Nat.lt_of_lt_of_le (by rw [hkl] at hi; exact hi) (Nat.mul_le_mul_right _ h2)
  refine store hs hx hy hb (by simpa using hic) hv h1 fun w' hb' hc => h w' ?_ hc
  refine ⟨by rw [List.length_set]; exact hkl, .inr ⟨g, c, cur.setIfInBounds i v, rfl, hbase, hb', h2, h3, by simpa using h4, ?_⟩⟩
  rw [Array.toList_setIfInBounds, List.take_set, h5]
end
theorem ownAt {T : Type} {cells : T → List Value} {m : Nat} (hm : ∀ x, (cells x).length = m) (h0 : 0 < m) {w : World} {base e k c : Nat} {A : Option Addr} {l : List T} (h : w.ownsRow base e m (.slice A k c) k (l.flatMap cells)) (i : Nat) (hi : i < l.length) (hk : k = l.length) :
    ∃ g, A = some ⟨g, 0, none⟩ ∧ base ≤ g ∧ g < w.heap.size ∧ (⟨g, 0, none⟩ : Addr).add (i * m) = ⟨g, i * m, none⟩ ∧ Rd w (some ⟨g, i * m, none⟩) (cells l[i]) := by
  obtain ⟨g, hA, h1, h2⟩ := own_form0 h (by omega)
  obtain ⟨ad, b, o, hA', hadd, hr⟩ := rdAt hm h0 (Rd.of_own h) i hi
  rw [hA] at hA'; injection hA' with hA'; subst hA'
  rw [add_flat, Nat.zero_add] at hadd
  injection hadd with e1 e2; subst e1 e2
  exact ⟨g, hA, h1, h2, by rw [add_flat, Nat.zero_add], hr⟩
theorem RdT.fresh {w : World} {ty : TypeId} {A : Option Addr} {l : List Value} (h : RdT w ty A l) {g : Nat} (hg : g = w.heap.size) : ∀ ad, A = some ad → ¬ ad.block = g := fun ad e hh => by
  obtain ⟨cs, fr, h7⟩ := h.2 ad e
  rw [Array.getElem?_eq_none (by omega)] at h7; cases h7
theorem RdT.chg {S : Nat → Prop} {w w' : World} {ty : TypeId} {A : Option Addr} {l : List Value} (h : RdT w ty A l) (hc : Chg S w w') (hn : ∀ ad, A = some ad → ¬ S ad.block) : RdT w' ty A l := ⟨h.1.chg hc hn, fun ad e => by
  obtain ⟨cs, fr, hh⟩ := h.2 ad e
  refine ⟨cs, fr, ?_⟩
  rw [hc.block _ ?_ (hn ad e)]; exact hh
  rcases Nat.lt_or_ge ad.block w.heap.size with h | h
  · exact h
  · rw [Array.getElem?_eq_none h] at hh; cases hh⟩
theorem rdPre {w : World} {A : Option Addr} {a b : List Value} (h : Rd w A (a ++ b)) : Rd w A a := fun j v hj => h j v (by rw [List.getElem?_append_left (List.getElem?_eq_some_iff.1 hj).1]; exact hj)
theorem flat_at {T : Type} {cells : T → List Value} {m : Nat} (hm : ∀ x, (cells x).length = m) (h0 : 0 < m) : ∀ (l : List T) (i : Nat) (u : Value), (l.flatMap cells)[i]? = some u → ∃ (k : Nat) (hk : k < l.length) (j : Nat), i = k * m + j ∧ (cells l[k])[j]? = some u
  | [], i, u, h => by simp at h
  | a :: l, i, u, h => by
    rw [List.flatMap_cons] at h
    by_cases hi : i < m
    · rw [List.getElem?_append_left (by rw [hm]; exact hi)] at h
      exact ⟨0, by simp, i, by omega, h⟩
    · rw [List.getElem?_append_right (by rw [hm]; omega), hm] at h
      obtain ⟨k, hk, j, e, hh⟩ := flat_at hm h0 l (i - m) u h
      exact ⟨k + 1, by simpa using hk, j, by rw [Nat.add_mul]; omega, by simpa using hh⟩
theorem rdOf {T : Type} {cells : T → List Value} {m : Nat} (hm : ∀ x, (cells x).length = m) (h0 : 0 < m) {w : World} {x : Addr} {l : List T} (h : ∀ (k : Nat) (hk : k < l.length) (j : Nat) (u : Value), (cells l[k])[j]? = some u → w.cell? (x.add (k * m + j)) = some u) : Rd w (some x) (l.flatMap cells) := fun i u hi => by
  obtain ⟨k, hk, j, e, hh⟩ := flat_at hm h0 l i u hi
  exact ⟨x, rfl, by rw [e]; exact h k hk j u hh⟩
theorem oneCells {vs : Array Value} (h : vs.toList.all (fun u => u.oneCell') = true) : ∀ u ∈ vs.toList, u.oneCell' = true := List.all_eq_true.1 h
theorem oneCellsL {vs : List Value} (h : vs.all (fun u => u.oneCell') = true) : ∀ u ∈ vs, u.oneCell' = true := List.all_eq_true.1 h
theorem allSz {vs : List Value} {m : Nat} (h : vs.all (fun v => Nat.beq v.cells.size m) = true) : ∀ v ∈ vs, v.cells.size = m := fun v hv => Nat.eq_of_beq_eq_true (List.all_eq_true.1 h v hv)
section
variable {P : Program} {Q : Exit → Act → World → Prop} {C : World → Prop} {K : Act → Prop} {n : Nat} {ops : Array Oper} {rest : List Oper} {f : Fr} {w : World} {d : Nat} {ty : TypeId} {pos : String} {after : Array Edge} {x y : Operand} {v : Value}
theorem ld {t : TypeId} {ad : Addr} (ht : ScalT P t) (hx : ev f x = some (.pointer (some ad))) (hc : w.cell? ad = some v) (hd : Nat.blt d n = true)
    (h : FL P Q n ds ops rest ((d, v) :: f) w) : FL P Q n ds ops (⟨some d, .load t x, ty, pos, after, none⟩ :: rest) f w := s (val_load ht hx (fun _ e => by rw [e]; exact hc)) hd h
theorem ldQ {t : TypeId} {ad : Addr} (ht : ScalT P t) (hx : ev f x = some (.pointer (some ad))) (hc : w.cell? ad = some v) (hd : Nat.blt d n = true)
    (h : FQ P (Below w.heap.size w) n ds ops K rest ((d, v) :: f)) : FQ P (Below w.heap.size w) n ds ops K (⟨some d, .load t x, ty, pos, after, none⟩ :: rest) f :=
  q (val_load ht hx (fun w' hb => by rw [hb.cell (World.block_lt_of_cell? w ad hc)]; exact hc)) hd h
theorem ldA {t : TypeId} {ad : Addr} {cs : List Value} {m : Nat} (ht : AggT P t m) (hx : ev f x = some (.pointer (some ad))) (hc : Rd w (some ad) cs) (hm : cs.length = m) (hd : Nat.blt d n = true)
    (h : FL P Q n ds ops rest ((d, .agg cs.toArray) :: f) w) : FL P Q n ds ops (⟨some d, .load t x, ty, pos, after, none⟩ :: rest) f w := s (val_loadA ht hx (fun _ e => by rw [e]; exact hc) hm) hd h
theorem ldAQ {t : TypeId} {ad : Addr} {cs : List Value} {m : Nat} (ht : AggT P t m) (hx : ev f x = some (.pointer (some ad))) (hc : Rd w (some ad) cs) (hm : cs.length = m) (hd : Nat.blt d n = true)
    (h : FQ P (Below w.heap.size w) n ds ops K rest ((d, .agg cs.toArray) :: f)) : FQ P (Below w.heap.size w) n ds ops K (⟨some d, .load t x, ty, pos, after, none⟩ :: rest) f :=
  q (val_loadA ht hx (fun w' hb => hc.low hb) hm) hd h
theorem bT {b : Bool} (e : b = true) (h : FL P Q n ds ops rest ((d, .bool true) :: f) w) : FL P Q n ds ops rest ((d, .bool b) :: f) w := by subst e; exact h
theorem bF {b : Bool} (e : b = false) (h : FL P Q n ds ops rest ((d, .bool false) :: f) w) : FL P Q n ds ops rest ((d, .bool b) :: f) w := by subst e; exact h
theorem b2 {b : Bool} (hT : b = true → FL P Q n ds ops rest ((d, .bool true) :: f) w) (hF : b = false → FL P Q n ds ops rest ((d, .bool false) :: f) w) : FL P Q n ds ops rest ((d, .bool b) :: f) w := by
  cases h : b
  · exact hF h
  · exact hT h
theorem bTQ {b : Bool} (e : b = true) (h : FQ P C n ds ops K rest ((d, .bool true) :: f)) : FQ P C n ds ops K rest ((d, .bool b) :: f) := by subst e; exact h
theorem bFQ {b : Bool} (e : b = false) (h : FQ P C n ds ops K rest ((d, .bool false) :: f)) : FQ P C n ds ops K rest ((d, .bool b) :: f) := by subst e; exact h
theorem b2Q {b : Bool} (hT : b = true → FQ P C n ds ops K rest ((d, .bool true) :: f)) (hF : b = false → FQ P C n ds ops K rest ((d, .bool false) :: f)) : FQ P C n ds ops K rest ((d, .bool b) :: f) := by
  cases h : b
  · exact hF h
  · exact hT h
theorem val_indexR {t e : TypeId} {s len cap b o m : Nat} {A : Option Addr} {ad : Addr} {k : IntKind} {i : Int} (ht : P.underlying t = some (.slice e)) (hs : SizeT P e s) (hx : ev f x = some (.slice A len cap)) (hA : A = some ad) (hi : ev f y = some (.int k i)) (hm : i = (m : Nat)) (hlt : m < len)
    (ha : ad.add (m * s) = ⟨b, o, none⟩) : Val P n f C (.indexAddr t x y) ty (.pointer (some ⟨b, o, none⟩)) := by subst hA; exact val_index ht hs hx hi hm hlt ha
/-- a struct is written whole -/
theorem storeW {t : TypeId} {g m : Nat} {te : TypeId} {cs vs : Array Value} (hs : SizeT P t m) (hx : ev f x = some (.pointer (some ⟨g, 0, none⟩))) (hy : ev f y = some (.agg vs)) (hb : Blk w g te cs) (hm : vs.size = m) (hl : cs.size = m) (h1 : ∀ v ∈ vs.toList, v.oneCell' = true)
    (h : ∀ w', Blk w' g te vs → Chg (· = g) w w' → FL P Q n ds ops rest f w') : FL P Q n ds ops (⟨none, .store t x y, ty, pos, after, none⟩ :: rest) f w :=
  storeA (by rw [hm]; exact hs) hx hy hb (by omega) h1 fun w' hb' hc => h w' (by
    have e : putRow cs 0 vs.toList = vs := by
      unfold putRow
      rw [List.take_zero, List.nil_append, List.drop_eq_nil_of_le (by simp; omega), List.append_nil]
    rw [e] at hb'; exact hb') hc
end
end Fw
end Go.Proofs.Ytgpdodhegacndaa
