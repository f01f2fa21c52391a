/- Layer 19: the list of operations. -/
import Derived.Test.YtmabbdkckdpeoaaStDo
namespace Go.Proofs.Ytmabbdkckdpeoaa
set_option linter.unusedSimpArgs false
set_option linter.unusedVariables false
open Go.RowKit

/-- a slice of operations that is only read -/
def Acts (w : World) (A : Option Addr) (l : List St.Act) : Prop :=
  ∀ k, (h : k < l.length) → ∃ ad b o A' c', A = some ad ∧ ad.add (k * 4) = ⟨b, o, none⟩ ∧ w.cell? ⟨b, o, none⟩ = some (.int .u8 l[k].kind) ∧ w.cell? ⟨b, o + 1, none⟩ = some (.slice A' l[k].b.length c') ∧
    w.cell? ⟨b, o + 2, none⟩ = some (.int .i64 l[k].n) ∧ w.cell? ⟨b, o + 3, none⟩ = some (.int .u8 l[k].m) ∧
    ActV w (.agg #[.int .u8 l[k].kind, .slice A' l[k].b.length c', .int .i64 l[k].n, .int .u8 l[k].m]) l[k]
theorem ActV.low {w w' : World} {v : Value} {a : St.Act} (h : ActV w v a) (hb : Below w.heap.size w w') : ActV w' v a := by
  obtain ⟨A, c, rfl, hr, h⟩ := h
  exact ⟨A, c, rfl, hr.low hb, h⟩
theorem Acts.low {w w' : World} {A : Option Addr} {l : List St.Act} (h : Acts w A l) (hb : Below w.heap.size w w') : Acts w' A l := fun k hk => by
  obtain ⟨ad, b, o, A', c', e, ha, h0, h1, h2, h3, hv⟩ := h k hk
  have up : ∀ {p : Addr} {v : Value}, w.cell? p = some v → w'.cell? p = some v := fun {p v} hc => (hb.cell (World.block_lt_of_cell? w p hc)).trans hc
  exact ⟨ad, b, o, A', c', e, ha, up h0, up h1, up h2, up h3, hv.low hb⟩
def tot (l : List St.Act) : Nat := l.foldl (fun n a => n + (a.b.length + 1)) 0
theorem tot_take {l : List St.Act} {k : Nat} (h : k < l.length) : tot (l.take (k + 1)) = tot (l.take k) + (l[k].b.length + 1) := by
  unfold tot; rw [List.take_succ_eq_append_getElem h, List.foldl_append]; rfl
theorem tot_take_le (l : List St.Act) (k : Nat) : tot (l.take k) ≤ tot l := by
  have h : ∀ (b : List St.Act) (n : Nat), n ≤ b.foldl (fun n a => n + (a.b.length + 1)) n := by
    intro b
    induction b with
    | nil => intro n; exact Nat.le_refl _
    | cons a b ih => intro n; exact Nat.le_trans (Nat.le_add_right _ _) (ih _)
  have e : tot l = (l.drop k).foldl (fun n a => n + (a.b.length + 1)) (tot (l.take k)) := by
    unfold tot; rw [← List.foldl_append, List.take_append_drop]
  rw [e]; exact h _ _

set_option maxRecDepth 100000 in
theorem small_any (w : World) (A : Option Addr) (l : List St.Act) (c : Nat) (h : Acts w A l) (hl : l.length ≤ maxLen) (hbig : ∀ a ∈ l, a.b.length ≤ 140737488355328) :
    Calls Try.prog 14 #[.slice A l.length c] w fun e w' => e = .returned (.bool (decide (tot l ≤ 3000))) ∧ Below w.heap.size w w' := by
  unfold maxLen at hl
  have HA := Lib.hid h
  have HBIG := Lib.hid hbig
  clear h hbig
  go_enter Try.func14, Try.ntmps14
  go_wp2
  go_loopw [3, 8] (fun n i wr => ∃ k m : Nat, k ≤ l.length ∧ m = tot (l.take k) ∧ m ≤ 3000 ∧ i = .int .i64 k ∧ n = .int .i64 m ∧ Below w.heap.size w wr) (fun _ i _ => l.length - (intOf i).toNat)
  case atStart => exact ⟨0, 0, Nat.zero_le _, rfl, by omega, rfl, rfl, Below.refl _ _⟩
  case round =>
    obtain ⟨k, m, hk, hm, hm3, rfl, rfl, hb⟩ := hrel
    have HM := Lib.hid hm
    have HB := Lib.hid hb
    clear hm hb
    by_cases hlt : k < l.length
    · obtain ⟨ad, b, o, A', c', hA, hadd, h0, h1, h2, h3, hv⟩ := (HA.out.low HB.out) k hlt
      subst hA
      have hbg := HBIG.out l[k] (List.getElem_mem hlt)
      have HT := Lib.hid (tot_take hlt)
      have HV := Lib.hid hv
      clear hv
      have HLE := Lib.hid (tot_take_le l (k + 1))
      by_cases hbig3 : m + (l[k].b.length + 1) ≤ 3000
      · go_wp2
        go_roundw
        case rel => exact ⟨k + 1, m + (l[k].b.length + 1), by omega, by rw [HT.out, HM.out], hbig3, by go_num, by go_num, (HB.out.alloc (by have := HB.out.size; omega) _)⟩
        case measure => simp [intOf]; omega
      · go_wp2
        go_ret
        refine ⟨ret_bool (Eq.symm (decide_eq_false ?_)), (HB.out.alloc (by have := HB.out.size; omega) _)⟩
        have := HT.out; have := HLE.out; have := HM.out; omega
    · go_wp2
      go_ret
      refine ⟨ret_bool (Eq.symm (decide_eq_true ?_)), HB.out⟩
      have := HM.out; rw [List.take_of_length_le (by omega)] at this; omega

namespace St
theorem ok_do {t : T} (a : Act) (h : t.lasts ≤ t.data.length ∧ t.data.length ≤ 16777216) : (doT t a).lasts ≤ (doT t a).data.length ∧ (doT t a).data.length ≤ 16777216 := by
  unfold doT
  by_cases h0 : a.kind % 5 = 0
  · rw [if_pos h0]; unfold write
    cases t.off
    · by_cases hf : t.data.length + a.b.length ≤ 16777216
      · simp [fits, hf]; omega
      · simp [fits, hf]; exact h
    · exact h
  · rw [if_neg h0]
    by_cases h1 : a.kind % 5 = 1
    · rw [if_pos h1]; unfold sync
      cases t.off
      · exact ⟨Nat.le_refl _, h.2⟩
      · exact h
    · rw [if_neg h1]
      by_cases h2 : a.kind % 5 = 2
      · rw [if_pos h2]; unfold cut
        cases t.off
        · simp only [Bool.false_eq_true, if_false]
          have hk : kept t a.n ≤ t.data.length := by unfold kept; omega
          by_cases h3 : t.lasts < kept t a.n
          · rw [if_pos h3, xorLast_length, List.length_take]; omega
          · rw [if_neg h3, List.length_take]; omega
        · exact h
      · rw [if_neg h2]
        by_cases h3 : a.kind % 5 = 3
        · rw [if_pos h3]; exact h
        · rw [if_neg h3]; unfold short
          by_cases h4 : 0 ≤ a.n ∧ a.n ≤ t.data.length
          · rw [if_pos h4]
            cases t.off
            · simp only [Bool.false_eq_true, if_false, List.length_take]; omega
            · exact h
          · rw [if_neg h4]; exact h
def run (l : List Act) : T := l.foldl doT new
theorem run_take {l : List Act} {k : Nat} (h : k < l.length) : run (l.take (k + 1)) = doT (run (l.take k)) l[k] := by
  unfold run; rw [List.take_succ_eq_append_getElem h, List.foldl_append]; rfl
theorem run_ok (l : List Act) : (run l).lasts ≤ (run l).data.length ∧ (run l).data.length ≤ 16777216 := by
  have h : ∀ (l : List Act) (t : T), (t.lasts ≤ t.data.length ∧ t.data.length ≤ 16777216) → (l.foldl doT t).lasts ≤ (l.foldl doT t).data.length ∧ (l.foldl doT t).data.length ≤ 16777216 := by
    intro l
    induction l with
    | nil => intro t h; exact h
    | cons a l ih => intro t h; exact ih _ (ok_do a h)
  exact h l new ⟨Nat.le_refl _, by simp [new]⟩
end St

theorem DoPost.file {w w' : World} {B p : Nat} {g : Option Nat} {t' u' : St.T} {v' : Value} (h : DoPost w w' B p g t' u' v') : ∃ g', FileAt w' B p g' t' := h.imp fun _ h => h.1
theorem FileAt.base {w : World} {B p : Nat} {g : Option Nat} {t : St.T} (h : FileAt w B p g t) : ∀ k, Fp p g k → B ≤ k := by
  obtain ⟨hB, A, c, hk, ho, hg⟩ := h
  rintro k (e | e)
  · omega
  · exact (ho.lt k (by rw [ownBlock_slice, hg, e])).1
theorem tape0 (w : World) (N : Nat → Prop) : TapeV w N (.agg #[.slice none 0 0, .int .i64 0, .bool false]) St.new :=
  ⟨none, 0, rfl, Rd.nil _ _, Nat.le_refl _, by unfold maxLen; omega, fun ad e => by cases e⟩

set_option maxRecDepth 100000 in
theorem play_any (w : World) (A : Option Addr) (l : List St.Act) (c : Nat) (h : Acts w A l) (hl : l.length ≤ maxLen) :
    Calls Try.prog 17 #[.slice A l.length c] w fun e w' => ∃ p g A' c', e = .returned (.tuple #[.pointer (some ⟨p, 0, none⟩), .slice A' (St.run l).data.length c', .int .i64 (St.run l).lasts]) ∧
      FileAt w' w.heap.size p g (St.on (St.run l)) ∧ (∃ base, p < base ∧ (∀ k, g = some k → k < base) ∧ w.heap.size ≤ base ∧ w'.ownsRow base 5 1 (.slice A' (St.run l).data.length c') (St.run l).data.length ((St.run l).data.map (.int .u8))) ∧ Below w.heap.size w w' := by
  unfold maxLen at hl
  have HA := Lib.hid h
  clear h
  go_enter Try.func17, Try.ntmps17
  go_wp2_with fail
  refine (new_any _).mono ?_
  rintro e w1 ⟨rfl, hf1, hb1⟩
  have HF1 := Lib.hid hf1
  have HB1 := Lib.hid hb1
  clear hf1 hb1
  go_wp2_with fail
  go_loopw [7, 13] (fun _ i wr => ∃ k g, k ≤ l.length ∧ i = .int .i64 (k : Nat) ∧ FileAt wr w.heap.size w.heap.size g (St.run (l.take k)) ∧ Below w.heap.size w wr) (fun _ i _ => l.length - (intOf i).toNat)
  case atStart => exact ⟨0, none, Nat.zero_le _, rfl, HF1.out, HB1.out⟩
  case round =>
    obtain ⟨k, g, hk, rfl, hf, hb⟩ := hrel
    have HF := Lib.hid hf
    have HB := Lib.hid hb
    clear hf hb
    by_cases hlt : k < l.length
    · obtain ⟨ad, b, o, A', c', hA, hadd, h0, h1, h2, h3, hv⟩ := (HA.out.low HB.out) k hlt
      subst hA
      have HV := Lib.hid hv
      have HR := Lib.hid (St.run_take hlt)
      clear hv
      go_wp2_with fail
      refine (do_any _ w.heap.size w.heap.size g (St.run (l.take k)) St.new _ _ l[k] (HF.out.low (by repeat (first | with_reducible exact Below.refl _ _ | (refine Below.alloc ?_ (by simp <;> omega) _)))) (St.run_ok _) (tape0 _ _) ⟨Nat.le_refl _, by simp [St.new]⟩ (HV.out.low (by repeat (first | with_reducible exact Below.refl _ _ | (refine Below.alloc ?_ (by simp <;> omega) _))))).mono ?_
      rintro e w2 ⟨v', rfl, hdo⟩
      have HDO := Lib.hid hdo
      clear hdo
      go_wp2
      go_roundw
      case rel =>
        obtain ⟨g', hf', _, hc', _⟩ := HDO.out
        refine ⟨k + 1, g', by omega, by go_num, by rw [HR.out]; exact hf', ?_⟩
        have hba := (HB.out.alloc (by have := HB.out.size; omega) (.cells #[.int .u8 l[k].kind, .slice A' l[k].b.length c', .int .i64 l[k].n, .int .u8 l[k].m] 39))
        exact hba.trans (hc'.below (fun k hk => HF.out.base k hk) hba.size)
      case measure => simp [intOf]; omega
    · obtain rfl : k = l.length := by omega
      have HT := Lib.hid (List.take_length (l := l))
      have hf := HF.out
      rw [HT.out] at hf
      have HF2 := Lib.hid hf
      clear hf
      go_wp2_with fail
      refine (powerOn_any _ _ _ _ _ HF2.out).mono ?_
      rintro e w2 ⟨rfl, g2, hf2, hc2, hd2⟩
      have HF3 := Lib.hid hf2
      have HB3 := Lib.hid (HB.out.trans (hc2.below (fun k hk => HF2.out.base k hk) HB.out.size))
      clear hf2 hc2 hd2
      go_wp2_with fail
      refine (bytes_any _ _ _ _ _ HF3.out (St.run_ok l).2 rfl).mono ?_
      rintro e w3 ⟨A3, c3, rfl, hown3, hb3⟩
      have HF4 := Lib.hid (HF3.out.low hb3)
      have HB4 := Lib.hid (HB3.out.trans (hb3.mono HB3.out.size))
      have HO := Lib.hid hown3
      clear hown3 hb3
      go_wp2_with fail
      refine (durable_any _ _ _ _ _ HF4.out).mono ?_
      rintro e w4 ⟨rfl, rfl⟩
      go_wp2
      go_ret3
      exact ⟨_, g2, A3, c3, rfl, HF4.out, ⟨w2.heap.size, HF3.out.lt.1, HF3.out.lt.2, HB3.out.size, HO.out⟩, HB4.out⟩

end Go.Proofs.Ytmabbdkckdpeoaa
