/- TopTalks: copies of slices, followers, what is reachable. -/
import Derived.Test.YtpoacekefhblhaaTkM
import Derived.Test.YtpoacekefhblhaaTkA
namespace Go.Proofs.Ytpoacekefhblhaa
set_option linter.unusedSimpArgs false
set_option linter.unusedVariables false
open Go.RowKit

namespace Tk
theorem one_nats (l : List Nat) : ∀ u ∈ nats l, u.oneCell' = true := fun u hu => by
  obtain ⟨x, _, rfl⟩ := List.mem_map.1 hu; rfl
theorem nats_len (l : List Nat) : (nats l).length = l.length := by unfold nats; simp
theorem one_ans (E : List An) : ∀ u ∈ E.flatMap An.cells, u.oneCell' = true := fun u hu => by
  obtain ⟨e, _, hu⟩ := List.mem_flatMap.1 hu
  simp [An.cells] at hu
  rcases hu with rfl | rfl | rfl | rfl <;> rfl
theorem fo_set {fl : List Fo} {f z : Fo} {N k : Nat} (h : fl.length = k) (hk : k < N) : ((fl ++ List.replicate (N - k) z).map Fo.cell).set k (Fo.cell f) = ((fl ++ [f]) ++ List.replicate (N - (k + 1)) z).map Fo.cell := by
  rw [← List.map_set]
  congr 1
  rw [List.set_append_right _ _ (by omega), h, Nat.sub_self, show N - k = (N - (k + 1)) + 1 by omega, List.replicate_succ, List.set_cons_zero, List.append_assoc]
  rfl
theorem fol_step {qs : List Qu} {fl : List Fo} {k : Nat} {f : Fo} (h : fl.length = k) (hk : k < qs.length) (h1 : ∀ q r, q < k → (Ef fl q r ↔ Eq qs q r)) (h2 : ∀ r, r ∈ f.l ↔ ∃ a ∈ qs[k].an, a.next = (r : Int)) : ∀ q r, q < k + 1 → (Ef (fl ++ [f]) q r ↔ Eq qs q r) := fun q r hq => by
  rcases Nat.lt_succ_iff_lt_or_eq.1 hq with hq | hq
  · rw [← h1 q r hq]
    unfold Ef
    constructor
    · rintro ⟨h3, h4⟩
      refine ⟨by omega, ?_⟩
      rwa [List.getElem_append_left (by omega)] at h4
    · rintro ⟨h3, h4⟩
      refine ⟨by simp; omega, ?_⟩
      rwa [List.getElem_append_left (by omega)]
  · subst hq
    constructor
    · rintro ⟨h3, h4⟩
      rw [List.getElem_append_right (by omega)] at h4
      simp only [h, Nat.sub_self, List.getElem_cons_zero] at h4
      exact ⟨hk, (h2 r).1 h4⟩
    · rintro ⟨h3, h4⟩
      refine ⟨by simp; omega, ?_⟩
      rw [List.getElem_append_right (by omega)]
      simp only [h, Nat.sub_self, List.getElem_cons_zero]
      exact (h2 r).2 h4
theorem fol_all {qs : List Qu} {fl : List Fo} (h : fl.length = qs.length) (h1 : ∀ q r, q < qs.length → (Ef fl q r ↔ Eq qs q r)) : Fol qs fl := ⟨h, fun q r => by
  by_cases hq : q < qs.length
  · exact h1 q r hq
  · constructor
    · rintro ⟨h3, _⟩; omega
    · rintro ⟨h3, _⟩; omega⟩
theorem all_app {T : Type} {P : T → Prop} {l : List T} {x : T} (h : ∀ y ∈ l, P y) (hx : P x) : ∀ y ∈ l ++ [x], P y := fun y hy => by
  rcases List.mem_append.1 hy with hy | hy
  · exact h y hy
  · rw [List.mem_singleton.1 hy]; exact hx
end Tk
set_option maxRecDepth 100000 in
set_option maxHeartbeats 1000000 in
theorem cloneI_any (w : World) (A : Option Addr) (l : List Nat) (c : Nat) (h : Rd w A (Tk.nats l)) (hl : l.length ≤ 65536) : Calls Try.prog 28 #[.slice A l.length c] w fun e_ w' => ∃ A' c', e_ = .returned (.slice A' l.length c') ∧ w'.ownsRow w.heap.size 3 1 (.slice A' l.length c') l.length (Tk.nats l) ∧ Below w.heap.size w w' := by
  cases A with
  | none =>
    have hl0 : l = [] := by
      cases l with
      | nil => rfl
      | cons x l => obtain ⟨ad, e, _⟩ := h 0 _ rfl; cases e
    subst hl0
    refine Fw.calls Try.func28 rfl Try.ntmps28 rfl ?_
    have HB := Below.refl (w.heap.size) w
    refine Fw.seq fun _ hK1 => ?_
    refine Fw.region ?_
    refine Fw.s (Fw.val_assign rfl) rfl ?_
    refine Fw.nil ?_
    refine hK1 _ _ ?_
    refine Fw.seq fun _ hK2 => ?_
    refine Fw.seq fun _ hK3 => ?_
    refine Fw.region ?_
    refine Fw.s (Fw.val_move rfl) rfl ?_
    refine Fw.s (Fw.val_bin rfl rfl (Fw.b_nilS Try.underlying42)) rfl ?_
    refine Fw.nil ?_
    refine hK3 _ _ ?_
    refine Fw.condT rfl ?_
    refine Fw.seq fun _ hK4 => ?_
    refine Fw.region ?_
    refine Fw.s (Fw.val_assign rfl) rfl ?_
    refine Fw.nil ?_
    refine hK4 _ _ ?_
    refine Fw.ret ?_
    refine Fw.X_ret ?_
    refine Fw.ret_ [.tmp 2] [_] Try.results28 (.tmp rfl .nil) ?_
    exact ⟨none, 0, rfl, ⟨rfl, .inl ⟨rfl, rfl⟩⟩, HB⟩
  | some ad =>
    refine Fw.calls Try.func28 rfl Try.ntmps28 rfl ?_
    have HB := Below.refl (w.heap.size) w
    refine Fw.seq fun _ hK1 => ?_
    refine Fw.region ?_
    refine Fw.s (Fw.val_assign rfl) rfl ?_
    refine Fw.nil ?_
    refine hK1 _ _ ?_
    refine Fw.seq fun _ hK2 => ?_
    refine Fw.seq fun _ hK3 => ?_
    refine Fw.region ?_
    refine Fw.s (Fw.val_move rfl) rfl ?_
    refine Fw.s (Fw.val_bin rfl rfl (Fw.b_nilS Try.underlying42)) rfl ?_
    refine Fw.nil ?_
    refine hK3 _ _ ?_
    refine Fw.condF rfl ?_
    refine Fw.skip ?_
    refine hK2 _ _ ?_
    refine Fw.seq fun _ hK4 => ?_
    refine Fw.region ?_
    refine Fw.buildSlice [] sl42 rfl rfl (by exact Fw.allSz rfl) (by decide) rfl ?_
    intro w1 gS5 egS5 HS5 hb
    have lgS5 : w.heap.size ≤ gS5 := by have := HB.size; omega
    replace HB := HB.trans (hb.mono HB.size)
    clear hb
    clear egS5
    refine Fw.s (Fw.val_move rfl) rfl ?_
    refine Fw.append (l.length) (Tk.nats l) sl42 rfl rfl (Fw.own_blk HS5 lgS5 (by unfold maxLen; omega) rfl) (h.low HB) (by rw [Tk.nats_len]; omega) (Tk.one_nats l) (by unfold maxLen; omega) HB.size (Nat.zero_add _) rfl rfl ?_
    intro A7 c7 w2 N_ hbb hc hrow
    replace HB := HB.trans hbb
    clear hbb hc hrow HS5
    refine Fw.s (Fw.val_assign rfl) rfl ?_
    refine Fw.nil ?_
    refine hK4 _ _ (Fw.FC.sub (f' := [(2, _)]) (.cons rfl .nil) ?_)
    refine Fw.ret ?_
    refine Fw.ret_ [.tmp 2] [_] Try.results28 (.tmp rfl .nil) ?_
    exact ⟨A7, c7, rfl, N_, HB⟩

set_option maxRecDepth 100000 in
set_option maxHeartbeats 1000000 in
theorem cloneA_any (w : World) (A : Option Addr) (E : List Tk.An) (c : Nat) (h : Rd w A (E.flatMap Tk.An.cells)) (hl : E.length ≤ 65536) (hA : 0 < E.length) : Calls Try.prog 33 #[.slice A E.length c] w fun e_ w' => ∃ A' c', e_ = .returned (.slice A' E.length c') ∧ w'.ownsRow w.heap.size 68 4 (.slice A' E.length c') E.length (E.flatMap Tk.An.cells) ∧ Below w.heap.size w w' := by
  obtain ⟨ad, rfl⟩ : ∃ ad, A = some ad := by
    cases E with
    | nil => simp at hA
    | cons x l => obtain ⟨ad, e, _⟩ := h 0 _ rfl; exact ⟨ad, e⟩
  refine Fw.calls Try.func33 rfl Try.ntmps33 rfl ?_
  have HB := Below.refl (w.heap.size) w
  refine Fw.seq fun _ hK1 => ?_
  refine Fw.region ?_
  refine Fw.s (Fw.val_assign rfl) rfl ?_
  refine Fw.nil ?_
  refine hK1 _ _ ?_
  refine Fw.seq fun _ hK2 => ?_
  refine Fw.seq fun _ hK3 => ?_
  refine Fw.region ?_
  refine Fw.s (Fw.val_move rfl) rfl ?_
  refine Fw.s (Fw.val_bin rfl rfl (Fw.b_nilS Try.underlying28)) rfl ?_
  refine Fw.nil ?_
  refine hK3 _ _ ?_
  refine Fw.condF rfl ?_
  refine Fw.skip ?_
  refine hK2 _ _ ?_
  refine Fw.seq fun _ hK4 => ?_
  refine Fw.region ?_
  refine Fw.buildSlice [] sl28 rfl rfl (by exact Fw.allSz rfl) (by decide) rfl ?_
  intro w1 gS5 egS5 HS5 hb
  have lgS5 : w.heap.size ≤ gS5 := by have := HB.size; omega
  replace HB := HB.trans (hb.mono HB.size)
  clear hb
  clear egS5
  refine Fw.s (Fw.val_move rfl) rfl ?_
  refine Fw.append (E.length) (E.flatMap Tk.An.cells) sl28 rfl rfl (Fw.own_blk HS5 lgS5 (by unfold maxLen; omega) rfl) (h.low HB) (Fw.flat_len Tk.An.len E) (Tk.one_ans E) (by unfold maxLen; omega) HB.size (Nat.zero_add _) rfl rfl ?_
  intro A7 c7 w2 N_ hbb hc hrow
  replace HB := HB.trans hbb
  clear hbb hc hrow HS5
  refine Fw.s (Fw.val_assign rfl) rfl ?_
  refine Fw.nil ?_
  refine hK4 _ _ (Fw.FC.sub (f' := [(2, _)]) (.cons rfl .nil) ?_)
  refine Fw.ret ?_
  refine Fw.ret_ [.tmp 2] [_] Try.results33 (.tmp rfl .nil) ?_
  exact ⟨A7, c7, rfl, N_, HB⟩

set_option maxRecDepth 100000 in
set_option maxHeartbeats 1000000 in
theorem successors_any (w : World) (nm : ByteArray) (ver : Int) (Tq : Option Addr) (qs : List Tk.Qu) (cq : Nat) (hq : Tk.QsAt w Tq qs) (q : Nat) (hql : q < qs.length) (ha : qs[q].an.length ≤ 16) : Calls Try.prog 32 #[.agg #[.string nm, .int .i64 ver, .slice Tq qs.length cq], .int .i64 (q : Int)] w fun e_ w' => ∃ A c l, e_ = .returned (.slice A l.length c) ∧ w'.ownsRow w.heap.size 3 1 (.slice A l.length c) l.length (Tk.nats l) ∧ l.length ≤ 16 ∧ (∀ r, r ∈ l ↔ ∃ a ∈ qs[q].an, a.next = (r : Int)) ∧ Below w.heap.size w w' := by
  refine Fw.calls Try.func32 rfl Try.ntmps32 rfl ?_
  have HB := Below.refl (w.heap.size) w
  obtain ⟨adq, bq_, oq_, hAq, haddq, HQe⟩ := Fw.rdAt Tk.Qu.len (by decide) hq.1 q hql
  have hqa := hq.2 _ (List.getElem_mem hql)
  refine Fw.seq fun _ hK1 => ?_
  refine Fw.region ?_
  refine Fw.box rfl rfl ?_
  intro w1 gt egt Ht hb
  have lgt : w.heap.size ≤ gt := by have := HB.size; omega
  replace HB := HB.trans (hb.mono HB.size)
  clear hb
  clear egt
  refine Fw.s (Fw.val_assign rfl) rfl ?_
  refine Fw.nil ?_
  refine hK1 _ _ ?_
  refine Fw.seq fun _ hK2 => ?_
  refine Fw.seq fun _ hK3 => ?_
  refine Fw.region ?_
  refine Fw.s (Fw.val_move rfl) rfl ?_
  refine Fw.s (Fw.Val.F (Fw.val_bin rfl rfl Fw.b_lss) (by omega)) rfl ?_
  refine Fw.s (Fw.val_move rfl) rfl ?_
  refine Fw.gT (d := 10) rfl rfl ?_
  refine Fw.s (Fw.val_move rfl) rfl ?_
  refine Fw.gT (d := 10) rfl rfl ?_
  refine Fw.s (Fw.val_fieldAddr fl24_2 rfl rfl) rfl ?_
  refine Fw.gT (d := 10) rfl rfl ?_
  refine Fw.ld sc22 rfl (Ht.cell 2) rfl ?_
  refine Fw.gT (d := 10) rfl rfl ?_
  refine Fw.s (Fw.val_len Try.underlying22 rfl) rfl ?_
  refine Fw.gT (d := 10) rfl rfl ?_
  refine Fw.s (Fw.Val.F (Fw.val_bin rfl rfl Fw.b_geq) (by omega)) rfl ?_
  refine Fw.s (Fw.val_pickF rfl rfl) rfl ?_
  refine Fw.nil ?_
  refine hK3 _ _ (Fw.FC.sub (f' := [(16, _), (2, _), (1, _)]) (.cons rfl (.cons rfl (.cons rfl .nil))) ?_)
  refine Fw.condF rfl ?_
  refine Fw.skip ?_
  refine hK2 _ _ ?_
  refine Fw.seq fun _ hK4 => ?_
  refine Fw.region ?_
  refine Fw.s (Fw.val_assign rfl) rfl ?_
  refine Fw.nil ?_
  refine hK4 _ _ ?_
  refine Fw.seq fun _ hK5 => ?_
  refine Fw.seq fun _ hK6 => ?_
  refine Fw.region ?_
  refine Fw.s (Fw.val_fieldAddr fl24_2 rfl rfl) rfl ?_
  refine Fw.ld sc22 rfl (Ht.cell 2) rfl ?_
  refine Fw.s (Fw.val_move rfl) rfl ?_
  refine Fw.s (Fw.val_indexR Try.underlying22 sz30 rfl hAq rfl rfl hql haddq) rfl ?_
  refine Fw.s (Fw.val_fieldAddr fl30_1 rfl rfl) rfl ?_
  refine Fw.ld sc28 rfl (Fw.rdCell (HQe.low HB) 1 rfl) rfl ?_
  refine Fw.s (Fw.val_len Try.underlying28 rfl) rfl ?_
  refine Fw.s (Fw.val_move rfl) rfl ?_
  refine Fw.nil ?_
  refine hK6 _ _ (Fw.FC.sub (f' := [(24, _), (23, _), (22, _), (5, _)]) (.cons rfl (.cons rfl (.cons rfl (.cons rfl .nil)))) ?_)
  refine Fw.block ?_
  have HN : w1.ownsRow w.heap.size 3 1 (.slice none 0 0) ([] : List Int).length (([] : List Int).map (.int .i64)) := ⟨rfl, .inl ⟨rfl, rfl⟩⟩
  refine Fw.loop (fun m_ f_ W_ => ∃ (k : Nat) (A_ : Option Addr) (c_ : Nat) (acc : List Int), m_ = qs[q].an.length - k ∧ k ≤ qs[q].an.length ∧ acc = Tk.nexts (qs[q].an.take k) ∧ World.ownsRow W_ w.heap.size 3 1 (.slice A_ acc.length c_) acc.length (acc.map (.int .i64)) ∧ Below (w.heap.size) w W_ ∧ f_ = [(24, .int .i64 k), (23, .int .i64 qs[q].an.length), (22, .slice qs[q].A qs[q].an.length qs[q].c), (5, .slice A_ acc.length c_)]) ⟨_, _, ⟨0, none, 0, [], rfl, Nat.zero_le _, rfl, HN, HB, rfl⟩, (.cons rfl (.cons rfl (.cons rfl (.cons rfl .nil))))⟩ ?_
  clear HN HB
  rintro m8_ _ w2 ⟨k, A_, c_, acc, hm8_, hk, hacc, HN, HB, rfl⟩
  refine Fw.seq fun _ hK9 => ?_
  refine Fw.region ?_
  refine Fw.s2 (Fw.val_bin rfl rfl Fw.b_lss) rfl ?_ ?_
  · rintro hlt
    refine Fw.nil ?_
    refine hK9 _ _ ?_
    refine Fw.seq fun _ hK11 => ?_
    refine Fw.condT rfl ?_
    refine Fw.skip ?_
    refine hK11 _ _ ?_
    refine Fw.seq fun _ hK12 => ?_
    refine Fw.block ?_
    refine Fw.seq fun _ hK13 => ?_
    have hk2 : k < qs[q].an.length := by omega
    obtain ⟨ad, b_, o_, hA, hadd, HAe⟩ := Fw.rdAt Tk.An.len (by decide) hqa k hk2
    refine Fw.region ?_
    refine Fw.s (Fw.val_indexR Try.underlying28 sz68 rfl hA rfl rfl hk2 hadd) rfl ?_
    refine Fw.ldA ag68 rfl ((HAe.low HB)) rfl rfl ?_
    refine Fw.alloc ze68 rfl ?_
    intro w3 ga ega Ha hb
    have lga : w.heap.size ≤ ga := by have := HB.size; omega
    replace HN := own_below HN hb (Nat.le_refl _)
    replace HB := HB.trans (hb.mono HB.size)
    clear hb
    clear ega
    refine Fw.storeW sz68 rfl rfl Ha rfl rfl (by exact Fw.oneCells rfl) ?_
    intro w4 N_ hc
    replace HN := own_to HN hc (fun g_ h_ e_ => own_ne HN Ha (by decide) (by rw [h_, e_]))
    replace HB := HB.trans (hc.below (B := w.heap.size) (fun k e => by omega) HB.size)
    clear hc
    clear Ha
    have Ha := N_
    clear N_
    replace Ha : Blk w4 ga 68 #[.string qs[q].an[k].text, .int .i64 qs[q].an[k].next, .int .i64 qs[q].an[k].urg, .string qs[q].an[k].code] := Ha
    refine Fw.nil ?_
    refine hK13 _ _ ?_
    refine Fw.seq fun _ hK15 => ?_
    refine Fw.region ?_
    refine Fw.s (Fw.val_fieldAddr fl68_1 rfl rfl) rfl ?_
    refine Fw.ld sc3 rfl (Ha.cell 1) rfl ?_
    refine Fw.s2 (Fw.val_bin rfl rfl Fw.b_geq) rfl ?_ ?_
    · rintro hge
      refine Fw.nil ?_
      refine hK15 _ _ ?_
      refine Fw.condT rfl ?_
      refine Fw.region ?_
      refine Fw.s (Fw.val_move rfl) rfl ?_
      refine Fw.s (Fw.val_fieldAddr fl68_1 rfl rfl) rfl ?_
      refine Fw.ld sc3 rfl (Ha.cell 1) rfl ?_
      refine Fw.buildSlice [_] sl42 rfl rfl (by exact Fw.allSz rfl) (by decide) rfl ?_
      intro w5 gS34 egS34 HS34 hb
      have n_ga_gS34 : ga < gS34 := by have := Ha.lt; omega
      have lgS34 : w.heap.size ≤ gS34 := by have := HB.size; omega
      replace HN := own_below HN hb (Nat.le_refl _)
      replace Ha := Ha.low hb
      replace HB := HB.trans (hb.mono HB.size)
      clear hb
      clear egS34
      have hal : acc.length ≤ 16 := by
        rw [hacc]
        have := Tk.nexts_len (qs[q].an.take k)
        rw [List.length_take] at this
        omega
      refine Fw.append ((acc ++ [qs[q].an[k].next]).length) ((acc ++ [qs[q].an[k].next]).map (Value.int .i64)) sl42 rfl rfl HN (show Rd _ _ [Value.int .i64 qs[q].an[k].next] from Fw.rdBlk HS34) rfl (Fw.oneCellsL rfl) (by unfold maxLen; omega) HB.size (by simp) (by simp) rfl ?_
      intro A35 c35 w6 N_ hbb hc hrow
      replace HB := HB.trans hbb
      clear hbb hc hrow HN HS34
      have HN := N_
      clear N_
      refine Fw.s (Fw.val_assign rfl) rfl ?_
      refine Fw.nil ?_
      refine Fw.X_blockN ?_
      refine hK12 _ _ (Fw.FC.sub (f' := [(5, _), (24, _), (23, _), (22, _)]) (.cons rfl (.cons rfl (.cons rfl (.cons rfl .nil)))) ?_)
      refine Fw.region ?_
      refine Fw.s (Fw.val_bin rfl rfl (Fw.b_add (Fw.i64_ok (by omega)))) rfl ?_
      refine Fw.s (Fw.val_move rfl) rfl ?_
      refine Fw.nil ?_
      refine Fw.roundEnd _ _ (by omega) ⟨k + 1, A35, c35, acc ++ [qs[q].an[k].next], rfl, by omega, by rw [Tk.nexts_step hk2, if_pos hge, hacc], HN, HB, rfl⟩ (.cons rfl (.cons rfl (.cons rfl (.cons rfl .nil))))
    · rintro hge
      refine Fw.nil ?_
      refine hK15 _ _ ?_
      refine Fw.condF rfl ?_
      refine Fw.skip ?_
      refine Fw.X_blockN ?_
      refine hK12 _ _ (Fw.FC.sub (f' := [(24, _), (23, _), (22, _), (5, _)]) (.cons rfl (.cons rfl (.cons rfl (.cons rfl .nil)))) ?_)
      refine Fw.region ?_
      refine Fw.s (Fw.val_bin rfl rfl (Fw.b_add (Fw.i64_ok (by omega)))) rfl ?_
      refine Fw.s (Fw.val_move rfl) rfl ?_
      refine Fw.nil ?_
      refine Fw.roundEnd _ _ (by omega) ⟨k + 1, A_, c_, acc, rfl, by omega, by rw [Tk.nexts_step hk2, if_neg hge, hacc], HN, HB, rfl⟩ (.cons rfl (.cons rfl (.cons rfl (.cons rfl .nil))))
  · rintro hlt
    refine Fw.nil ?_
    refine hK9 _ _ ?_
    refine Fw.seq fun _ hK17 => ?_
    refine Fw.condF rfl ?_
    refine Fw.exit ?_
    refine Fw.X_exit ?_
    refine Fw.X_exit ?_
    refine Fw.X_block ?_
    refine hK5 _ _ ?_
    refine Fw.seq fun _ hK18 => ?_
    rw [List.take_of_length_le (by omega)] at hacc
    have hal : acc.length ≤ 16 := by rw [hacc]; exact Nat.le_trans (Tk.nexts_len _) ha
    refine Fw.region ?_
    refine Fw.s (Fw.val_move rfl) rfl ?_
    refine Fw.call cf39 rfl rfl (sort_any HN (by omega)) ?_
    rintro e_ w7 ⟨rfl, l1, hl1, hm1, H1, hc⟩
    refine ⟨_, rfl, ?_⟩
    replace HB := HB.trans (hc.below (B := w.heap.size) (fun k e => Fw.own_lo HN e) HB.size)
    clear hc HN
    have HN := H1
    clear H1
    rw [← hl1] at HN
    refine Fw.nil ?_
    refine hK18 _ _ ?_
    refine Fw.seq fun _ hK19 => ?_
    refine Fw.region ?_
    refine Fw.s (Fw.val_move rfl) rfl ?_
    refine Fw.call cf40 rfl rfl ((show Calls _ _ #[.slice A_ acc.length c_] _ _ from by rw [← hl1]; exact compact_any HN (by omega))) ?_
    rintro e_ w8 ⟨l2, rfl, hl2, hm2, H2, hc⟩
    refine ⟨_, rfl, ?_⟩
    replace HB := HB.trans (hc.below (B := w.heap.size) (fun k e => Fw.own_lo HN e) HB.size)
    clear hc HN
    have HN := H2
    clear H2
    refine Fw.s (Fw.val_assign rfl) rfl ?_
    refine Fw.nil ?_
    refine hK19 _ _ (Fw.FC.sub (f' := [(4, _)]) (.cons rfl .nil) ?_)
    refine Fw.ret ?_
    refine Fw.ret_ [.tmp 4] [_] Try.results32 (.tmp rfl .nil) ?_
    have hx : ∀ x, x ∈ l2 ↔ x ∈ acc := fun x => (hm2 x).trans (hm1 x)
    have hp : ∀ x ∈ l2, 0 ≤ x := fun x h => by
      have := (hx x).1 h
      rw [hacc] at this
      exact (Tk.mem_nexts.1 this).1
    refine ⟨A_, c_, l2.map Int.toNat, by rw [List.length_map]; rfl, by rw [List.length_map, Tk.nats_of hp]; exact HN, by rw [List.length_map]; omega, fun r => ?_, HB⟩
    rw [List.mem_map]
    constructor
    · rintro ⟨x, h, e⟩
      have h' := (hx x).1 h
      rw [hacc] at h'
      obtain ⟨h0, a, ha1, ha2⟩ := Tk.mem_nexts.1 h'
      exact ⟨a, ha1, by omega⟩
    · rintro ⟨a, ha1, ha2⟩
      refine ⟨(r : Int), (hx _).2 ?_, by simp⟩
      rw [hacc]
      exact Tk.mem_nexts.2 ⟨by omega, a, ha1, ha2⟩

set_option maxRecDepth 100000 in
set_option maxHeartbeats 1000000 in
theorem followers_any (w : World) (nm : ByteArray) (ver : Int) (Tq : Option Addr) (qs : List Tk.Qu) (cq : Nat) (hq : Tk.QsAt w Tq qs) (hql : qs.length ≤ 64) (ha : ∀ q ∈ qs, q.an.length ≤ 16) : Calls Try.prog 21 #[.agg #[.string nm, .int .i64 ver, .slice Tq qs.length cq]] w fun e_ w' => ∃ A c fs, e_ = .returned (.slice A (fs : List Tk.Fo).length c) ∧ Tk.FsAt w' A fs ∧ Tk.Fol qs fs ∧ (∀ f ∈ fs, f.l.length ≤ 16) ∧ Below w.heap.size w w' := by
  refine Fw.calls Try.func21 rfl Try.ntmps21 rfl ?_
  have HB := Below.refl (w.heap.size) w
  refine Fw.seq fun _ hK1 => ?_
  refine Fw.region ?_
  refine Fw.box rfl rfl ?_
  intro w1 gt egt Ht hb
  have lgt : w.heap.size ≤ gt := by have := HB.size; omega
  replace HB := HB.trans (hb.mono HB.size)
  clear hb
  clear egt
  refine Fw.s (Fw.val_assign rfl) rfl ?_
  refine Fw.nil ?_
  refine hK1 _ _ ?_
  refine Fw.seq fun _ hK2 => ?_
  refine Fw.region ?_
  refine Fw.s (Fw.val_fieldAddr fl24_2 rfl rfl) rfl ?_
  refine Fw.ld sc22 rfl (Ht.cell 2) rfl ?_
  refine Fw.s (Fw.val_len Try.underlying22 rfl) rfl ?_
  refine Fw.makeG qs.length sl56 zi42 rfl rfl rfl rfl (by omega) (by unfold maxLen; omega) HB.size rfl ?_
  intro w2 gL egL HL hb
  have n_gt_gL : gt < gL := by have := Ht.lt; omega
  rw [Fw.made (cells := fun (x : Tk.Fo) => [Tk.Fo.cell x]) (m := 1) (⟨none, 0, []⟩ : Tk.Fo) (Value.cells (.slice none 0 0)) rfl rfl] at HL
  have lgL : w.heap.size ≤ gL := by have := HB.size; omega
  replace Ht := Ht.low hb
  replace HB := HB.trans (hb.mono HB.size)
  clear hb
  clear egL
  replace HL : w2.ownsRow w.heap.size 42 1 (.slice (some ⟨gL, 0, none⟩) qs.length qs.length) qs.length (([] ++ List.replicate (qs.length - 0) (⟨none, 0, []⟩ : Tk.Fo)).map Tk.Fo.cell) := by simpa [List.flatMap_replicate] using HL
  have HFl : ∀ f ∈ ([] : List Tk.Fo), Fw.RdT w2 3 f.A (Tk.nats f.l) := fun f hf => by cases hf
  refine Fw.s (Fw.val_assign rfl) rfl ?_
  refine Fw.nil ?_
  refine hK2 _ _ ?_
  refine Fw.seq fun _ hK3 => ?_
  refine Fw.seq fun _ hK4 => ?_
  refine Fw.region ?_
  refine Fw.s (Fw.val_fieldAddr fl24_2 rfl rfl) rfl ?_
  refine Fw.ld sc22 rfl (Ht.cell 2) rfl ?_
  refine Fw.s (Fw.val_len Try.underlying22 rfl) rfl ?_
  refine Fw.s (Fw.val_move rfl) rfl ?_
  refine Fw.nil ?_
  refine hK4 _ _ (Fw.FC.sub (f' := [(12, _), (11, _), (3, _), (1, _)]) (.cons rfl (.cons rfl (.cons rfl (.cons rfl .nil)))) ?_)
  refine Fw.block ?_
  refine Fw.loop (fun m_ f_ W_ => ∃ (k : Nat) (fl : List Tk.Fo), m_ = qs.length - k ∧ k ≤ qs.length ∧ fl.length = k ∧ (∀ f ∈ fl, f.l.length ≤ 16) ∧ (∀ q r, q < k → (Tk.Ef fl q r ↔ Tk.Eq qs q r)) ∧ Blk W_ gt 24 #[.string nm, .int .i64 ver, .slice Tq qs.length cq] ∧ World.ownsRow W_ w.heap.size 42 1 (.slice (some ⟨gL, 0, none⟩) qs.length qs.length) qs.length ((fl ++ List.replicate (qs.length - k) (⟨none, 0, []⟩ : Tk.Fo)).map Tk.Fo.cell) ∧ (∀ f ∈ (fl : List Tk.Fo), Fw.RdT W_ 3 f.A (Tk.nats f.l)) ∧ Below (w.heap.size) w W_ ∧ f_ = [(12, .int .i64 k), (11, .int .i64 qs.length), (3, .slice (some ⟨gL, 0, none⟩) qs.length qs.length), (1, .pointer (some ⟨gt, 0, none⟩))]) ⟨_, _, ⟨0, [], rfl, Nat.zero_le _, rfl, (fun f hf => by cases hf), (fun q r h => absurd h (Nat.not_lt_zero _)), Ht, HL, HFl, HB, rfl⟩, (.cons rfl (.cons rfl (.cons rfl (.cons rfl .nil))))⟩ ?_
  clear Ht HL HFl HB
  rintro m5_ _ w3 ⟨k, fl, hm5_, hk, hfl, hf16, hfol, Ht, HL, HFl, HB, rfl⟩
  refine Fw.seq fun _ hK6 => ?_
  refine Fw.region ?_
  refine Fw.s2 (Fw.val_bin rfl rfl Fw.b_lss) rfl ?_ ?_
  · rintro hlt
    refine Fw.nil ?_
    refine hK6 _ _ ?_
    refine Fw.seq fun _ hK8 => ?_
    refine Fw.condT rfl ?_
    refine Fw.skip ?_
    refine hK8 _ _ ?_
    refine Fw.seq fun _ hK9 => ?_
    refine Fw.block ?_
    refine Fw.seq fun _ hK10 => ?_
    have hk2 : k < qs.length := by omega
    refine Fw.region ?_
    refine Fw.s (Fw.val_move rfl) rfl ?_
    refine Fw.s (Fw.val_assign rfl) rfl ?_
    refine Fw.nil ?_
    refine hK10 _ _ ?_
    refine Fw.region ?_
    refine Fw.s (Fw.val_move rfl) rfl ?_
    refine Fw.s (Fw.val_move rfl) rfl ?_
    refine Fw.ldA ag24 rfl (Fw.rdBlk Ht) rfl rfl ?_
    refine Fw.s (Fw.val_move rfl) rfl ?_
    refine Fw.call cf32 rfl rfl (successors_any _ nm ver Tq qs cq (hq.low HB) k hk2 (ha _ (List.getElem_mem hk2))) ?_
    rintro e_ w4 ⟨A19, c19, l19, rfl, H19, hl19, hm19, hb⟩
    refine ⟨_, rfl, ?_⟩
    replace Ht := Ht.low hb
    replace HL := own_below HL hb (Nat.le_refl _)
    replace HFl := fun f_ hf_ => (HFl f_ hf_).low hb
    replace HB := HB.trans (hb.mono HB.size)
    clear hb
    have HR19 := Fw.RdT.own H19
    clear H19
    replace HFl : ∀ f ∈ fl ++ [Tk.Fo.mk A19 c19 l19], Fw.RdT w4 3 f.A (Tk.nats f.l) := Tk.all_app HFl HR19
    clear HR19
    have EW11 := True.intro
    refine Fw.s (Fw.val_indexR Try.underlying56 sz42 rfl rfl rfl rfl hk2 (by rw [Fw.add_flat, Nat.zero_add, Nat.mul_one])) rfl ?_
    refine Fw.storeR sz42 rfl rfl HL (by rw [List.length_map, List.length_append, List.length_replicate]; omega) rfl rfl ?_
    intro w5 N_ hc
    replace Ht := Ht.chg hc (by omega)
    replace HFl := fun f_ hf_ => Fw.RdT.chgO (HFl f_ hf_) HL (by decide) hc
    replace HB := HB.trans (hc.below (B := w.heap.size) (fun k e => by omega) HB.size)
    clear hc
    clear HL EW11
    have HL := N_
    clear N_
    replace HL : World.ownsRow w5 w.heap.size 42 1 (.slice (some ⟨gL, 0, none⟩) qs.length qs.length) qs.length (((fl ++ [Tk.Fo.mk A19 c19 l19]) ++ List.replicate (qs.length - (k + 1)) (⟨none, 0, []⟩ : Tk.Fo)).map Tk.Fo.cell) := by rw [← Tk.fo_set hfl hk2]; exact HL
    refine Fw.nil ?_
    refine Fw.X_blockN ?_
    refine hK9 _ _ (Fw.FC.sub (f' := [(12, _), (11, _), (3, _), (1, _)]) (.cons rfl (.cons rfl (.cons rfl (.cons rfl .nil)))) ?_)
    refine Fw.region ?_
    refine Fw.s (Fw.val_bin rfl rfl (Fw.b_add (Fw.i64_ok (by omega)))) rfl ?_
    refine Fw.s (Fw.val_move rfl) rfl ?_
    refine Fw.nil ?_
    refine Fw.roundEnd _ _ (by omega) ⟨k + 1, fl ++ [Tk.Fo.mk A19 c19 l19], rfl, by omega, by simp [hfl], Tk.all_app hf16 hl19, Tk.fol_step hfl hk2 hfol hm19, Ht, HL, HFl, HB, rfl⟩ (.cons rfl (.cons rfl (.cons rfl (.cons rfl .nil))))
  · rintro hlt
    refine Fw.nil ?_
    refine hK6 _ _ ?_
    refine Fw.seq fun _ hK13 => ?_
    refine Fw.condF rfl ?_
    refine Fw.exit ?_
    refine Fw.X_exit ?_
    refine Fw.X_exit ?_
    refine Fw.X_block ?_
    refine hK3 _ _ ?_
    refine Fw.seq fun _ hK14 => ?_
    refine Fw.region ?_
    refine Fw.s (Fw.val_move rfl) rfl ?_
    refine Fw.s (Fw.val_assign rfl) rfl ?_
    refine Fw.nil ?_
    refine hK14 _ _ ?_
    refine Fw.ret ?_
    refine Fw.ret_ [.tmp 2] [_] Try.results21 (.tmp rfl .nil) ?_
    have hke : k = qs.length := by omega
    rw [hke] at hfl hfol HL
    rw [Nat.sub_self, List.replicate_zero, List.append_nil] at HL
    exact ⟨_, _, fl, by rw [hfl]; rfl, ⟨Rd.of_own HL, fun f hf => (HFl f hf).1⟩, Tk.fol_all hfl hfol, hf16, HB⟩

set_option maxRecDepth 100000 in
set_option maxHeartbeats 1000000 in
theorem reachable_any (w : World) (Tf : Option Addr) (fs : List Tk.Fo) (cf : Nat) (hf : Tk.FsAt w Tf fs) (hs : Tk.Sm fs) (hn : Tk.Nb fs) (Af : Option Addr) (fr : List Nat) (ca : Nat) (hr : Rd w Af (Tk.nats fr)) (hfr : ∀ s ∈ fr, s < fs.length) (hfl : fr.length ≤ 60000) : Calls Try.prog 23 #[.slice Tf fs.length cf, .slice Af fr.length ca] w fun e_ w' => ∃ g c rs, e_ = .returned (.slice (some ⟨g, 0, none⟩) fs.length c) ∧ rs.length = fs.length ∧ Tk.Reached (Tk.Ef fs) fr rs ∧ w'.ownsRow w.heap.size 4 1 (.slice (some ⟨g, 0, none⟩) fs.length c) fs.length (rs.map .bool) ∧ Below w.heap.size w w' := by
  refine Fw.calls Try.func23 rfl Try.ntmps23 rfl ?_
  have HB := Below.refl (w.heap.size) w
  have hs1 := hs.1
  refine Fw.seq fun _ hK1 => ?_
  refine Fw.region ?_
  refine Fw.s (Fw.val_assign rfl) rfl ?_
  refine Fw.nil ?_
  refine hK1 _ _ ?_
  refine Fw.seq fun _ hK2 => ?_
  refine Fw.region ?_
  refine Fw.s (Fw.val_move rfl) rfl ?_
  refine Fw.s (Fw.val_len Try.underlying56 rfl) rfl ?_
  refine Fw.makeG fs.length sl26 zi4 rfl rfl rfl rfl (by omega) (by unfold maxLen; omega) HB.size rfl ?_
  intro w1 gR egR HR hb
  rw [Fw.made (cells := fun (x : Bool) => [Value.bool x]) (m := 1) false (Value.cells (.bool false)) rfl rfl] at HR
  have lgR : w.heap.size ≤ gR := by have := HB.size; omega
  replace HB := HB.trans (hb.mono HB.size)
  clear hb
  clear egR
  replace HR : w1.ownsRow w.heap.size 4 1 (.slice (some ⟨gR, 0, none⟩) fs.length fs.length) fs.length ((List.replicate fs.length false).map .bool) := by simpa [List.flatMap_replicate] using HR
  refine Fw.s (Fw.val_assign rfl) rfl ?_
  refine Fw.nil ?_
  refine hK2 _ _ ?_
  refine Fw.seq fun _ hK3 => ?_
  refine Fw.region ?_
  refine Fw.s (Fw.val_move rfl) rfl ?_
  refine Fw.call cf28 rfl rfl (cloneI_any _ Af fr ca (hr.low HB) (by omega)) ?_
  rintro e_ w2 ⟨A13, c13, rfl, HO, hb⟩
  refine ⟨_, rfl, ?_⟩
  replace HO := own_base HO HB.size
  replace HR := own_below HR hb (Nat.le_refl _)
  replace HB := HB.trans (hb.mono HB.size)
  clear hb
  refine Fw.s (Fw.val_assign rfl) rfl ?_
  refine Fw.nil ?_
  refine hK3 _ _ (Fw.FC.sub (f' := [(6, _), (5, _), (0, _)]) (.cons rfl (.cons rfl (.cons rfl .nil))) ?_)
  refine Fw.seq fun _ hK4 => ?_
  refine Fw.seq fun _ hK5 => ?_
  refine Fw.region ?_
  refine Fw.s (Fw.val_assign rfl) rfl ?_
  refine Fw.nil ?_
  refine hK5 _ _ ?_
  refine Fw.block ?_
  refine Fw.loop (fun m_ f_ W_ => ∃ (k : Nat) (A_ : Option Addr) (c_ : Nat) (lst : List Nat) (rs : List Bool), m_ = Tk.todo fs rs + lst.length - k ∧ Tk.Bf fs fr lst rs k ∧ World.ownsRow W_ w.heap.size 4 1 (.slice (some ⟨gR, 0, none⟩) fs.length fs.length) fs.length (rs.map .bool) ∧ World.ownsRow W_ w.heap.size 3 1 (.slice A_ lst.length c_) lst.length (Tk.nats lst) ∧ Below (w.heap.size) w W_ ∧ f_ = [(7, .int .i64 k), (6, .slice A_ lst.length c_), (5, .slice (some ⟨gR, 0, none⟩) fs.length fs.length), (0, .slice Tf fs.length cf)]) ⟨_, _, ⟨0, A13, c13, fr, List.replicate fs.length false, rfl, Tk.Bf.start hs hfr, HR, HO, HB, rfl⟩, (.cons rfl (.cons rfl (.cons rfl (.cons rfl .nil))))⟩ ?_
  clear HR HO HB
  rintro m6_ _ w3 ⟨k, A_, c_, lst, rs, hm6_, hbf, HR, HO, HB, rfl⟩
  refine Fw.seq fun _ hK7 => ?_
  refine Fw.seq fun _ hK8 => ?_
  refine Fw.region ?_
  refine Fw.s (Fw.val_move rfl) rfl ?_
  refine Fw.s (Fw.val_move rfl) rfl ?_
  refine Fw.s (Fw.val_len Try.underlying42 rfl) rfl ?_
  refine Fw.s2 (Fw.val_bin rfl rfl Fw.b_lss) rfl ?_ ?_
  · rintro hlt
    refine Fw.nil ?_
    refine hK8 _ _ ?_
    refine Fw.condT rfl ?_
    refine Fw.skip ?_
    refine hK7 _ _ ?_
    refine Fw.seq fun _ hK10 => ?_
    refine Fw.block ?_
    refine Fw.seq fun _ hK11 => ?_
    have hk2 : k < lst.length := by omega
    have hq1 : lst[k] < fs.length := hbf.lt _ (List.getElem_mem hk2)
    have hq2 : lst[k] < rs.length := by rw [hbf.len]; exact hq1
    have hsm := hbf.sm
    refine Fw.region ?_
    refine Fw.s (Fw.val_move rfl) rfl ?_
    refine Fw.s (Fw.val_move rfl) rfl ?_
    obtain ⟨ad12, b12_, o12_, hA12, hadd12, HLe⟩ := Fw.rdAtM (Rd.of_own HO) k hk2
    refine Fw.s (Fw.val_indexR Try.underlying42 sz3 rfl hA12 rfl rfl hk2 hadd12) rfl ?_
    refine Fw.ld sc3 rfl (HLe) rfl ?_
    refine Fw.s (Fw.val_assign rfl) rfl ?_
    refine Fw.nil ?_
    refine hK11 _ _ (Fw.FC.sub (f' := [(8, _), (7, _), (6, _), (5, _), (0, _)]) (.cons rfl (.cons rfl (.cons rfl (.cons rfl (.cons rfl .nil))))) ?_)
    refine Fw.seq fun _ hK14 => ?_
    refine Fw.region ?_
    refine Fw.s (Fw.val_move rfl) rfl ?_
    refine Fw.s (Fw.val_move rfl) rfl ?_
    obtain ⟨ad15, b15_, o15_, hA15, hadd15, HRe⟩ := Fw.rdAtM (Rd.of_own HR) lst[k] hq2
    refine Fw.s (Fw.val_indexR Try.underlying26 sz4 rfl hA15 rfl rfl hq1 hadd15) rfl ?_
    refine Fw.ld sc4 rfl (HRe) rfl ?_
    refine Fw.b2 ?_ ?_
    · rintro hrt
      refine Fw.s (Fw.val_not rfl) rfl ?_
      refine Fw.nil ?_
      refine hK14 _ _ ?_
      refine Fw.condF rfl ?_
      refine Fw.skip ?_
      refine Fw.X_blockN ?_
      refine hK10 _ _ (Fw.FC.sub (f' := [(7, _), (6, _), (5, _), (0, _)]) (.cons rfl (.cons rfl (.cons rfl (.cons rfl .nil)))) ?_)
      refine Fw.region ?_
      refine Fw.s (Fw.val_move rfl) rfl ?_
      refine Fw.s (Fw.val_bin rfl rfl (Fw.b_add (Fw.i64_ok (by omega)))) rfl ?_
      refine Fw.s (Fw.val_assign rfl) rfl ?_
      refine Fw.nil ?_
      refine Fw.roundEnd _ _ (by omega) ⟨k + 1, A_, c_, lst, rs, rfl, hbf.skip hk2 (by rw [List.getElem?_eq_getElem hq2, hrt]), HR, HO, HB, rfl⟩ (.cons rfl (.cons rfl (.cons rfl (.cons rfl .nil))))
    · rintro hrt
      refine Fw.s (Fw.val_not rfl) rfl ?_
      refine Fw.nil ?_
      refine hK14 _ _ ?_
      refine Fw.condT rfl ?_
      refine Fw.seq fun _ hK17 => ?_
      refine Fw.region ?_
      refine Fw.s (Fw.val_move rfl) rfl ?_
      refine Fw.s (Fw.val_move rfl) rfl ?_
      have EW18 := True.intro
      refine Fw.s (Fw.val_indexR Try.underlying26 sz4 rfl rfl rfl rfl hq1 (by rw [Fw.add_flat, Nat.zero_add, Nat.mul_one])) rfl ?_
      refine Fw.storeR sz4 rfl rfl HR (by rw [List.length_map]; exact hq2) rfl rfl ?_
      intro w4 N_ hc
      replace HO := Fw.own_toO HO HR (by decide) hc
      replace HB := HB.trans (hc.below (B := w.heap.size) (fun k e => by omega) HB.size)
      clear hc
      clear HR EW18
      have HR := N_
      clear N_
      replace HR : World.ownsRow w4 w.heap.size 4 1 (.slice (some ⟨gR, 0, none⟩) fs.length fs.length) fs.length ((rs.set lst[k] true).map .bool) := by rw [List.map_set]; exact HR
      refine Fw.nil ?_
      refine hK17 _ _ (Fw.FC.sub (f' := [(8, _), (7, _), (6, _), (5, _), (0, _)]) (.cons rfl (.cons rfl (.cons rfl (.cons rfl (.cons rfl .nil))))) ?_)
      refine Fw.region ?_
      refine Fw.s (Fw.val_move rfl) rfl ?_
      refine Fw.s (Fw.val_move rfl) rfl ?_
      refine Fw.s (Fw.val_move rfl) rfl ?_
      obtain ⟨adf, bf_, of_, hAf, haddf, HFc⟩ := Fw.rdAtM hf.1 lst[k] hq1
      refine Fw.s (Fw.val_indexR Try.underlying56 sz42 rfl hAf rfl rfl hq1 haddf) rfl ?_
      refine Fw.ld sc42 rfl (((HB.cell (World.block_lt_of_cell? _ _ HFc)).trans HFc)) rfl ?_
      have hl16 := hs.2 _ (List.getElem_mem hq1)
      refine Fw.append ((lst ++ fs[lst[k]].l).length) (Tk.nats (lst ++ fs[lst[k]].l)) sl42 rfl rfl HO ((hf.2 _ (List.getElem_mem hq1)).low HB) (by rw [Tk.nats_len]; omega) (Tk.one_nats _) (by unfold maxLen; omega) HB.size (by simp) (by simp [Tk.nats]) rfl ?_
      intro A37 c37 w5 N_ hbb hc hrow
      replace HB := HB.trans hbb
      replace HR := Fw.own_toA HR HO (by decide) hc
      clear hbb hc hrow HO
      have HO := N_
      clear N_
      refine Fw.s (Fw.val_assign rfl) rfl ?_
      refine Fw.nil ?_
      refine Fw.X_blockN ?_
      refine hK10 _ _ (Fw.FC.sub (f' := [(6, _), (7, _), (5, _), (0, _)]) (.cons rfl (.cons rfl (.cons rfl (.cons rfl .nil)))) ?_)
      refine Fw.region ?_
      refine Fw.s (Fw.val_move rfl) rfl ?_
      refine Fw.s (Fw.val_bin rfl rfl (Fw.b_add (Fw.i64_ok (by omega)))) rfl ?_
      refine Fw.s (Fw.val_assign rfl) rfl ?_
      refine Fw.nil ?_
      refine Fw.roundEnd _ _ (by have h1_ := Tk.todo_set hq1 hq2 hrt; rw [List.length_append]; omega) ⟨k + 1, A37, c37, lst ++ fs[lst[k]].l, rs.set lst[k] true, rfl, hbf.take hn hk2 hq1 hrt, HR, HO, HB, rfl⟩ (.cons rfl (.cons rfl (.cons rfl (.cons rfl .nil))))
  · rintro hlt
    refine Fw.nil ?_
    refine hK8 _ _ ?_
    refine Fw.condF rfl ?_
    refine Fw.exit ?_
    refine Fw.X_exit ?_
    refine Fw.X_exit ?_
    refine Fw.X_block ?_
    refine hK4 _ _ (Fw.FC.sub (f' := [(5, _)]) (.cons rfl .nil) ?_)
    refine Fw.seq fun _ hK21 => ?_
    refine Fw.region ?_
    refine Fw.s (Fw.val_move rfl) rfl ?_
    refine Fw.s (Fw.val_assign rfl) rfl ?_
    refine Fw.nil ?_
    refine hK21 _ _ ?_
    refine Fw.ret ?_
    refine Fw.ret_ [.tmp 4] [_] Try.results23 (.tmp rfl .nil) ?_
    exact ⟨gR, _, rs, rfl, hbf.len, hbf.all (by omega), HR, HB⟩

set_option maxRecDepth 100000 in
set_option maxHeartbeats 1000000 in
theorem isCyclic_any (w : World) (Tf : Option Addr) (fs : List Tk.Fo) (cf : Nat) (hf : Tk.FsAt w Tf fs) (hs : Tk.Sm fs) (hn : Tk.Nb fs) (q : Nat) (hq : q < fs.length) : Calls Try.prog 22 #[.slice Tf fs.length cf, .int .i64 (q : Int)] w fun e_ w' => ∃ b, e_ = .returned (.bool b) ∧ (b = true ↔ Tk.Cyc (Tk.Ef fs) q) ∧ Below w.heap.size w w' := by
  refine Fw.calls Try.func22 rfl Try.ntmps22 rfl ?_
  have HB := Below.refl (w.heap.size) w
  refine Fw.seq fun _ hK1 => ?_
  refine Fw.region ?_
  refine Fw.s (Fw.val_assign rfl) rfl ?_
  refine Fw.nil ?_
  refine hK1 _ _ ?_
  refine Fw.seq fun _ hK2 => ?_
  refine Fw.region ?_
  refine Fw.s (Fw.val_move rfl) rfl ?_
  refine Fw.s (Fw.val_move rfl) rfl ?_
  refine Fw.s (Fw.val_move rfl) rfl ?_
  obtain ⟨adf, bf_, of_, hAf, haddf, HFc⟩ := Fw.rdAtM hf.1 q hq
  refine Fw.s (Fw.val_indexR Try.underlying56 sz42 rfl hAf rfl rfl hq haddf) rfl ?_
  refine Fw.ld sc42 rfl (((HB.cell (World.block_lt_of_cell? _ _ HFc)).trans HFc)) rfl ?_
  refine Fw.call cf23 rfl rfl (reachable_any _ Tf fs cf (hf.low HB) hs hn fs[q].A fs[q].l fs[q].c ((hf.2 _ (List.getElem_mem hq)).low HB) (hn _ (List.getElem_mem hq)) (by have := hs.2 _ (List.getElem_mem hq); omega)) ?_
  rintro e_ w1 ⟨gR, cR, rs, rfl, hrl, hre, HR, hb⟩
  refine ⟨_, rfl, ?_⟩
  replace HB := HB.trans (hb.mono HB.size)
  clear hb
  have hq2 : q < rs.length := by omega
  refine Fw.s (Fw.val_move rfl) rfl ?_
  obtain ⟨ad4, b4_, o4_, hA4, hadd4, HRe⟩ := Fw.rdAtM (Rd.of_own HR) q hq2
  refine Fw.s (Fw.val_indexR Try.underlying26 sz4 rfl hA4 rfl rfl hq hadd4) rfl ?_
  refine Fw.ld sc4 rfl (HRe) rfl ?_
  refine Fw.b2 ?_ ?_
  · rintro hrt
    refine Fw.s (Fw.val_assign rfl) rfl ?_
    refine Fw.nil ?_
    refine hK2 _ _ (Fw.FC.sub (f' := [(4, _)]) (.cons rfl .nil) ?_)
    refine Fw.ret ?_
    refine Fw.ret_ [.tmp 4] [_] Try.results22 (.tmp rfl .nil) ?_
    have hx : (rs[q]? = some true ↔ Tk.Cyc (Tk.Ef fs) q) := (hre q).trans ⟨fun ⟨s, h1, h2⟩ => ⟨s, ⟨hq, h1⟩, h2⟩, fun ⟨s, ⟨_, h1⟩, h2⟩ => ⟨s, h1, h2⟩⟩
    rw [List.getElem?_eq_getElem hq2, hrt] at hx
    exact ⟨true, rfl, ⟨fun _ => hx.1 rfl, fun _ => rfl⟩, HB⟩
  · rintro hrt
    refine Fw.s (Fw.val_assign rfl) rfl ?_
    refine Fw.nil ?_
    refine hK2 _ _ (Fw.FC.sub (f' := [(4, _)]) (.cons rfl .nil) ?_)
    refine Fw.ret ?_
    refine Fw.ret_ [.tmp 4] [_] Try.results22 (.tmp rfl .nil) ?_
    have hx : (rs[q]? = some true ↔ Tk.Cyc (Tk.Ef fs) q) := (hre q).trans ⟨fun ⟨s, h1, h2⟩ => ⟨s, ⟨hq, h1⟩, h2⟩, fun ⟨s, ⟨_, h1⟩, h2⟩ => ⟨s, h1, h2⟩⟩
    rw [List.getElem?_eq_getElem hq2, hrt] at hx
    exact ⟨false, rfl, ⟨fun h => Bool.noConfusion h, fun h => by have := hx.2 h; simp at this⟩, HB⟩

end Go.Proofs.Ytpoacekefhblhaa
