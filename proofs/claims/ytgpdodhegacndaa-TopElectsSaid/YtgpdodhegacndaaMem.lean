/- More words on memory: make and copy on rows of the call's own. No program is named here. -/
import Derived.Test.YtgpdodhegacndaaLib
import Derived.Laws.CopyOwn
import Derived.OwnWalk
import Derived.Lib.QuietBelow
import Derived.BigQuiet
import Derived.Deep.QuietTactic
namespace Go.Proofs.Ytgpdodhegacndaa
set_option linter.unusedSimpArgs false
set_option linter.unusedVariables false
open Go.RowKit

/-- make([]T, n): n zero elements, somewhere new -/
theorem wpList_mk {P : Program} {w : World} {ops : Array Oper} {rest : List Oper} {o : Oper} {a : Act} {Q : Exit → Act → World → Prop} {l c : Operand} {t e : TypeId} {size bytes base : Nat} {kl kc : IntKind} {L C : Int}
    (n : Nat) (z : Value) (hgd : o.guard = none) (hop : o.op = Op.makeSlice t l c) (hT : SlT P t e size bytes) (hz : (P.info? e).bind (·.zero) = some z) (hl : a.eval l = .int kl L) (hc : a.eval c = .int kc C) (hL : L = (n : Int)) (hC : C = (n : Int))
    (hb : bytes * n ≤ 281474976710656) (hm : n ≤ maxLen) (hbase : base ≤ w.heap.size)
    (h : ∀ w', w'.ownsRow base e size (.slice (some ⟨w.heap.size, 0, none⟩) n n) n (madeCells z.cells (n * size)).toList → Below w.heap.size w w' → wpList P ops Q rest (a.put o.dst (.slice (some ⟨w.heap.size, 0, none⟩) n n)) w') : wpList P ops Q (o :: rest) a w := by
  obtain ⟨i, z', ht, hi, hz', hsize, hby, hzs, hsz⟩ := hT
  have hzz : i.zero = some z := by rw [hi] at hz; simpa using hz
  refine wpList_make_full w hgd l c t hop base e i z size ht hi hzz hsize kl kc L C n hl hc hL hC (by rw [hby]; exact hb) hm hbase fun w' h1 h2 => h w' h1 ?_
  exact (Below.refl _ _).grown h2 (Nat.le_refl _) (fun k hk => by cases hk)

/-- copy(d, s) where s is no shorter than d: d then holds s's first cells -/
theorem wpList_cp {P : Program} {w : World} {ops : Array Oper} {rest : List Oper} {o : Oper} {a : Act} {Q : Exit → Act → World → Prop} {d s : Operand} {t e : TypeId} {bytes base n m c : Nat} {v : Value} {xs : List Value} {A : Option Addr}
    (news : List Value) (hgd : o.guard = none) (ho : o.op = .call { callee := .builtin .copy, args := #[d, s], argTypes := #[t, t] })
    (hT : SlT P t e 1 bytes) (hown : w.ownsRow base e 1 v n xs) (hd : a.eval d = v) (hr : Rd w A news) (hs : a.eval s = .slice A m c) (hl : news.length = n) (hnm : n ≤ m)
    (h1 : ∀ u ∈ news, u.oneCell' = true) (hbase : base ≤ w.heap.size)
    (h : ∀ w', w'.ownsRow base e 1 v n news → Below base w w' → wpList P ops Q rest (a.put o.dst (goInt n)) w') : wpList P ops Q (o :: rest) a w := by
  obtain ⟨i, z', ht, hi, hz', hsize, hby, hzs, hsz⟩ := hT
  have hsz1 : (P.info? e).map (·.size) = some 1 := by rw [hi, Option.map_some, hsize]
  obtain ⟨hlen, hown⟩ := hown
  rcases hown with ⟨rfl, rfl⟩ | ⟨g, cap, cur, rfl, hg, hh, hnc, hcm, hcs, htk⟩
  · have hn0 : news = [] := List.eq_nil_of_length_eq_zero hl
    subst hn0
    refine wpList_copy_nothing hgd d s t t ho e ht hsz1 none A 0 0 m c hd hs (by show Nat.min m 0 = 0; exact Nat.min_zero m) ?_
    exact h w ⟨by simp, .inl ⟨rfl, rfl⟩⟩ (Below.refl _ _)
  · refine wpList_copy_splice hgd d s t t ho e ht hsz1 (some ⟨g, 0, none⟩) A n cap m c hd hs g 0 cur.toList e (by simpa using hh) news (by rw [hl]; show n = min m n; omega) (fun hp => ⟨rfl, ?_⟩) (by simp; omega) h1 base w (Below.refl _ _) hg ?_
    · obtain ⟨u, hu⟩ : ∃ u, news[0]? = some u := ⟨news[0], by simp [hp]⟩
      obtain ⟨ad, hA, _⟩ := hr 0 u hu
      refine ⟨ad, hA, fun j v hj => ?_⟩
      obtain ⟨ad', hA', hc⟩ := hr j v hj
      rw [hA] at hA'; injection hA' with hA'; subst hA'; exact hc
    · intro w' hh' hb'
      rw [hl]
      refine h w' ⟨by omega, .inr ⟨g, cap, _, rfl, hg, hh'.out, hnc, hcm, ?_, ?_⟩⟩ hb'
      · rw [List.size_toArray, length_splice _ _ _ (by simp; omega)]; simp; omega
      · simp only [splice, List.take_zero, List.nil_append]
        rw [List.take_append_of_le_length (by omega), List.take_of_length_le (by omega)]

theorem wpQuiet_mono_ {P : Program} {ops : Array Oper} {C : World → Prop} {Q Q' : Act → Prop} (h : ∀ a, Q a → Q' a) : ∀ (l : List Oper) (a : Act), wpQuiet P ops C Q l a → wpQuiet P ops C Q' l a
  | [], a, hh => h a hh
  | o :: l, a, hh => by
    unfold wpQuiet at hh ⊢
    split
    · rename_i hw
      rw [if_pos hw] at hh
      exact Oper.quiet_mono (fun a => wpQuiet_mono_ h l a) hh
    · rename_i hw
      rw [if_neg hw] at hh
      exact wpQuiet_mono_ h l _ hh
/-- a region that draws its order, only reads, and whose calls change nothing that was there: walked once, in the order of the text -/
theorem wp_region_qb {P : Program} {id : Nat} {Q : Exit → Act → World → Prop} {a : Act} {w : World} {l : List Oper} (hm : P.follows .mixedOrders = true) (hB : Region.lexB .any l.toArray = true)
    (h : wpQuiet P l.toArray (fun w' => ∃ p : Regrown, w' = Sort.grow (redrawn w p.d) p.os) (fun a' => ∀ w', Below w.heap.size w w' → Q .normal a' w') l a) : (Code.region id l.toArray true).wp P Q a w :=
  wp_region_quiet_below hm hB (wpQuiet_mono_ (fun a' h w' hw' => by obtain ⟨p, rfl⟩ := hw'; exact h _ (below_regrown _ _ _)) l a h)
theorem calls_qb {P : Program} {f : FuncId} {args : Array Value} {w : World} {v : Value} (h : ∀ w', Below w.heap.size w w' → Calls P f args w' fun e w'' => e = .returned v ∧ Below w'.heap.size w' w'') (d : Nat) (os : Array Obj) :
    Calls P f args (Sort.grow (redrawn w d) os) fun e w'' => e = .returned v ∧ ∃ p : Regrown, w'' = Sort.grow (redrawn w p.d) p.os := Calls.regrown_of (h _ (below_regrown w d os))
theorem calls_qb0 {P : Program} {f : FuncId} {args : Array Value} {w : World} {v : Value} (h : ∀ w', Below w.heap.size w w' → Calls P f args w' fun e w'' => e = .returned v ∧ w' = w'') (d : Nat) (os : Array Obj) :
    Calls P f args (Sort.grow (redrawn w d) os) fun e w'' => e = .returned v ∧ ∃ p : Regrown, w'' = Sort.grow (redrawn w p.d) p.os := (h _ (below_regrown w d os)).mono fun e w'' ⟨he, hw⟩ => ⟨he, ⟨d, os⟩, hw.symm⟩

/-- append as a step of a region that draws its order -/
theorem step_app {P : Program} {w : World} {ops : Array Oper} {o : Oper} {a : Go.Act} {K : Go.Act → World → Prop} {Q : Exit → Go.Act → World → Prop} {E : Prop} {s x : Operand} {t e : TypeId} {size bytes base n m c : Nat} {v : Value} {xs news : List Value} {A : Option Addr}
    (nm : Nat) (ys : List Value) (hgd : o.guard = none) (ho : o.op = .call { callee := .builtin .append, args := #[s, x], argTypes := #[t, t] })
    (hT : SlT P t e size bytes) (hown : w.ownsRow base e size v n xs) (hs : a.eval s = v) (hr : Rd w A news) (hx : a.eval x = .slice A m c) (hl : news.length = m * size)
    (h1 : ∀ u ∈ news, u.oneCell' = true) (hb : n + m ≤ maxLen ∧ (n + m) * bytes ≤ 140737488355328) (hbase : base ≤ w.heap.size) (hnm : n + m = nm) (hys : xs ++ news = ys)
    (h : ∀ A' c' w', w'.ownsRow base e size (.slice A' nm c') nm ys → Below base w w' → w.grownBy w' v.ownBlock → ((Value.slice A' nm c').ownBlock = v.ownBlock ∨ (Value.slice A' nm c').ownBlock = some w.heap.size) → K (a.put o.dst (.slice A' nm c')) w') : if Region.wanted o (yielded ops a.tmps) = true then Oper.wp P o a w K Q else E := by
  subst hnm hys
  obtain ⟨i, z, ht, hi, hz, hsize, hby, hzs, hsz⟩ := hT
  have hw : Region.wanted o (yielded ops a.tmps) = true := by simp [Region.wanted, hgd]
  rw [if_pos hw]
  refine wp_append_rd w s x t ho base e i z size bytes ht hi hz hsize hby hzs hsz v n xs hs hown A m c news hx hl hr h1 hb.1 hb.2 hbase fun v' w' h2 h3 h4 => ?_
  obtain ⟨A', c', rfl⟩ := own_form h2
  exact h A' c' w' h2 (below_of_grown hown hbase h3) h3 h4
theorem Blk.new' (w : World) (t : TypeId) (cs : Array Value) (g : Nat) (hg : w.heap.size = g) : Blk (w.alloc (.cells cs t)) g t cs := by subst hg; exact Blk.new _ _ _
theorem Chg.set1 (w : World) (b i : Nat) (v : Value) : Chg (· = b) w (w.setCell ⟨b, i, none⟩ v) := Chg.setCell w ⟨b, i, none⟩ v
theorem own_al {w : World} {base : Nat} {e : TypeId} {size : Nat} {v : Value} {n : Nat} {xs : List Value} (h : w.ownsRow base e size v n xs) (o : Obj) : (w.alloc o).ownsRow base e size v n xs :=
  own_below h (Below.alloc (Below.refl w.heap.size w) (Nat.le_refl _) o) (Nat.le_refl _)
end Go.Proofs.Ytgpdodhegacndaa
