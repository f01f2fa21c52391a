/- Layer 9: a graph is built. -/
import Derived.Test.YtodhpooddmeghaaRgF
namespace Go.Proofs.Ytodhpooddmeghaa
set_option linter.unusedSimpArgs false
set_option linter.unusedVariables false
open Go.RowKit

namespace Rg
/-- rows of whole numbers, each of its own block -/
structure Rws (w : World) (base M : Nat) (r : Nat → Value) (c : Nat → List Nat) : Prop where
  own : ∀ i, i < M → w.ownsRow base 3 1 (r i) (c i).length (ints (c i))
  dis : ∀ i j g, i < M → j < M → i ≠ j → (r i).ownBlock = some g → (r j).ownBlock ≠ some g
section
variable {w w' : World} {base M : Nat} {r : Nat → Value} {c : Nat → List Nat}
theorem Rws.low (h : Rws w base M r c) (hb : Below w.heap.size w w') : Rws w' base M r c := ⟨fun i hi => own_below (h.own i hi) hb (Nat.le_refl _), h.dis⟩
theorem Rws.chgB {g t : Nat} {cs : Array Value} (h : Rws w base M r c) (hc : Chg (· = g) w w') (hg : Blk w g t cs) (hne : (3 : Nat) ≠ t) : Rws w' base M r c :=
  ⟨fun i hi => own_chg (h.own i hi) hc (fun g' e e' => own_ne_blk (h.own i hi) hg hne (by rw [e]; rw [e'])), h.dis⟩
theorem Rws.chgO {g b e n c' : Nat} {xs : List Value} (h : Rws w base M r c) (hc : Chg (· = g) w w') (ho : w.ownsRow b e 1 (.slice (some ⟨g, 0, none⟩) n c') n xs) (hne : (3 : Nat) ≠ e) : Rws w' base M r c := by
  obtain ⟨cur, hb, _⟩ := Fw.own_at ho
  exact h.chgB hc hb hne
theorem Rws.start (w : World) (base M : Nat) : Rws w base M (fun _ => .slice none 0 0) (fun _ => []) := ⟨fun i _ => ⟨rfl, .inl ⟨rfl, rfl⟩⟩, fun i j g _ _ _ e => by cases e⟩
theorem Rws.ext {c' : Nat → List Nat} (h : Rws w base M r c) (e : ∀ i, i < M → c i = c' i) : Rws w base M r c' := ⟨fun i hi => by rw [← e i hi]; exact h.own i hi, h.dis⟩
theorem Rws.app {i : Nat} (h : Rws w base M r c) (hi : i < M) {A : Option Addr} {c2 k : Nat} {ys : List Nat} (hc : Chg (fun g => some g = (r i).ownBlock) w w') (hk : k = ys.length) (hN : w'.ownsRow base 3 1 (.slice A k c2) k (ints ys))
    (hrow : A.map (·.block) = (r i).ownBlock ∨ A.map (·.block) = some w.heap.size) : Rws w' base M (fun j => if j = i then .slice A k c2 else r j) (fun j => if j = i then ys else c j) := by
  subst hk
  have key : ∀ j g, j < M → j ≠ i → (r j).ownBlock = some g → (Value.slice A ys.length c2).ownBlock ≠ some g := fun j g hj hne e e' => by
    rw [ownBlock_slice] at e'
    rcases hrow with h1 | h1
    rw [h1] at e'; exact h.dis j i g hj hi hne e e'
    rw [h1] at e'; injection e' with e'
    have := ((h.own j hj).lt g e).2
    omega
  refine ⟨fun j hj => ?_, fun a b g ha hb hne e => ?_⟩
  by_cases e : j = i
  simp only [if_pos e]; exact hN
  simp only [if_neg e]
  exact own_chg (h.own j hj) hc (fun g e1 e2 => h.dis j i g hj hi e e1 e2.symm)
  by_cases e1 : a = i
  by_cases e2 : b = i
  omega
  simp only [if_pos e1] at e
  simp only [if_neg e2]
  intro e3
  exact key b g hb e2 e3 e
  simp only [if_neg e1] at e
  by_cases e2 : b = i
  simp only [if_pos e2]; exact key a g ha e1 e
  simp only [if_neg e2]; exact h.dis a b g ha hb hne e
end
theorem rep_range {w : World} {base e n c g N off : Nat} (h : w.ownsRow base e 1 (.slice (some ⟨g, 0, none⟩) n c) n ((List.replicate N (Value.slice none 0 0)).flatMap fun x => [x])) : w.ownsRow base e 1 (.slice (some ⟨g, 0, none⟩) n c) n ((List.range N).map fun i => (fun _ => Value.slice none 0 0 : Nat → Value) (off + i)) := by
  have e : ((List.replicate N (Value.slice none 0 0)).flatMap fun x => [x]) = (List.range N).map fun i => (fun _ => Value.slice none 0 0 : Nat → Value) (off + i) := by
    rw [List.flatMap_singleton', List.map_const', List.length_range]
  rw [← e]; exact h
theorem own_cellR {w : World} {base e n c g N off : Nat} {r : Nat → Value} (h : w.ownsRow base e 1 (.slice (some ⟨g, 0, none⟩) n c) n ((List.range N).map fun i => r (off + i))) (i : Nat) (hi : i < N) : w.cell? ⟨g, i, none⟩ = some (r (off + i)) := by
  obtain ⟨ad, b, o, hA, hadd, hc⟩ := Fw.rdAtM (c := id) (l := (List.range N).map fun i => r (off + i)) (by simpa using Rd.of_own h) i (by simpa using hi)
  injection hA with hA; subst hA
  rw [Fw.add_flat, Nat.zero_add, Nat.mul_one] at hadd
  rw [hadd]; simpa using hc
theorem set_range {N off i : Nat} {r : Nat → Value} {x : Value} (hi : i < N) : ((List.range N).map fun j => r (off + j)).set i x = (List.range N).map fun j => (fun k => if k = off + i then x else r k) (off + j) := by
  refine List.ext_getElem (by simp) fun j h1 h2 => ?_
  simp only [List.length_set, List.length_map, List.length_range] at h1
  by_cases e : i = j
  subst e; simp
  rw [List.getElem_set_ne e]; simp only [List.getElem_map, List.getElem_range]
  rw [if_neg (by omega)]
theorem range_other {N off i : Nat} {r : Nat → Value} {x : Value} (hi : ∀ j, j < N → off + j ≠ i) : ((List.range N).map fun j => r (off + j)) = (List.range N).map fun j => (fun k => if k = i then x else r k) (off + j) := by
  refine List.map_congr_left fun j hj => ?_
  simp only
  rw [if_neg (hi j (List.mem_range.1 hj))]
theorem adj_step {key : Ed → Nat} {E : List Ed} {k v : Nat} (hk : k < E.length) : adj key (E.take (k + 1)) v = adj key (E.take k) v ++ (if key E[k] = v then [k] else []) := by
  unfold adj
  have h1 : (E.take (k + 1)).length = k + 1 := by rw [List.length_take]; omega
  have h2 : (E.take k).length = k := by rw [List.length_take]; omega
  rw [h1, h2, List.range_succ, List.filter_append]
  congr 1
  refine List.filter_congr fun i hi => ?_
  have hi := List.mem_range.1 hi
  rw [List.getElem?_take_of_lt (by omega), List.getElem?_take_of_lt hi]
  rw [List.filter_cons, List.filter_nil, List.getElem?_take_of_lt (by omega), List.getElem?_eq_getElem hk]
  simp
/-- what the rows of both tables hold, when the first k edges are in -/
def cont (E : List Ed) (N k : Nat) (i : Nat) : List Nat := if i < N then adj Ed.f (E.take k) i else adj Ed.t (E.take k) (i - N)
theorem cont0 (E : List Ed) (N i : Nat) : [] = cont E N 0 i := by unfold cont adj; split <;> simp
theorem cont_out {E : List Ed} {N k v : Nat} (h : v < N) : cont E N k v = adj Ed.f (E.take k) v := by unfold cont; rw [if_pos h]
theorem cont_in {E : List Ed} {N k v : Nat} : cont E N k (N + v) = adj Ed.t (E.take k) v := by unfold cont; rw [if_neg (by omega), Nat.add_sub_cancel_left]
/-- behind the first append of a round -/
def c2 (E : List Ed) (N k : Nat) (hk : k < E.length) : Nat → List Nat := fun j => if j = 0 + E[k].f then cont E N k (0 + E[k].f) ++ [k] else cont E N k j
theorem cont_step {E : List Ed} {N k : Nat} (hk : k < E.length) (hf : E[k].f < N) (ht : E[k].t < N) (i : Nat) (hi : i < 2 * N) :
    (fun j => if j = N + E[k].t then c2 E N k hk (N + E[k].t) ++ [k] else c2 E N k hk j) i = cont E N (k + 1) i := by
  have e0 : c2 E N k hk (N + E[k].t) = adj Ed.t (E.take k) E[k].t := by unfold c2; rw [if_neg (by omega), cont_in]
  simp only [e0]
  unfold c2
  rw [cont_out (by omega), Nat.zero_add]
  by_cases e1 : i < N
  rw [if_neg (by omega), cont_out e1, cont_out e1, adj_step hk]
  by_cases e2 : i = E[k].f
  subst e2; rw [if_pos rfl, if_pos rfl]
  rw [if_neg e2, if_neg (fun h => e2 h.symm)]; simp
  obtain ⟨v, rfl⟩ : ∃ v, i = N + v := ⟨i - N, by omega⟩
  rw [cont_in (k := k + 1), adj_step hk, if_neg (show ¬ N + v = E[k].f by omega), cont_in]
  by_cases e2 : v = E[k].t
  subst e2; rw [if_pos rfl, if_pos rfl]
  rw [if_neg (by omega), if_neg (fun h => e2 h.symm)]; simp
theorem c2_len {E : List Ed} {N k : Nat} (hk : k < E.length) (hf : E[k].f < N) : (c2 E N k hk (N + E[k].t)).length ≤ E.length := by
  unfold c2; rw [if_neg (by omega), cont_in]; exact Nat.le_trans adj_len (by rw [List.length_take]; omega)
theorem own_set {w : World} {b e n c g N : Nat} (r : Nat → Value) (off : Nat) {i : Nat} {x : Value} (h : w.ownsRow b e 1 (.slice (some ⟨g, 0, none⟩) n c) n (((List.range N).map fun j => r (off + j)).set i x)) (hi : i < N) :
    w.ownsRow b e 1 (.slice (some ⟨g, 0, none⟩) n c) n ((List.range N).map fun j => (fun k => if k = off + i then x else r k) (off + j)) := by
  rw [set_range hi] at h; exact h
theorem own_oth {w : World} {b e n c g N : Nat} (r : Nat → Value) (off : Nat) {i : Nat} (x : Value) (h : w.ownsRow b e 1 (.slice (some ⟨g, 0, none⟩) n c) n ((List.range N).map fun j => r (off + j))) (hi : ∀ j, j < N → off + j ≠ i) :
    w.ownsRow b e 1 (.slice (some ⟨g, 0, none⟩) n c) n ((List.range N).map fun j => (fun k => if k = i then x else r k) (off + j)) := by
  rw [← range_other hi]; exact h
theorem one_nat {w : World} {g : Nat} {k : Nat} {t : TypeId} (h : Blk w g t #[.int .i64 (k : Int)]) : Rd w (some ⟨g, 0, none⟩) (ints [k]) := Fw.rdBlk h
theorem ints_app (a b : List Nat) : ints a ++ ints b = ints (a ++ b) := by unfold ints; rw [List.map_append]
/-- a graph whose blocks have their types -/
def TabT (w : World) (A : Option Addr) (svs : List Value) (key : Ed → Nat) (E : List Ed) (N : Nat) : Prop :=
  Fw.RdT w 47 A svs ∧ ∀ v, v < N → ∃ B c, svs[v]? = some (.slice B (adj key E v).length c) ∧ Fw.RdT w 3 B (ints (adj key E v))
structure GPT (w : World) (g N : Nat) (E : List Ed) (Ae : Option Addr) (ce : Nat) (Ao : Option Addr) (co : Nat) (Ai : Option Addr) (ci : Nat) (svO svI : List Value) : Prop where
  blk : Blk w g 107 #[.slice Ae E.length ce, .slice Ao N co, .slice Ai N ci]
  edges : Fw.RdT w 29 Ae (E.flatMap Ed.cells)
  out : TabT w Ao svO Ed.f E N
  inn : TabT w Ai svI Ed.t E N
def GT (w : World) (g N : Nat) (E : List Ed) : Prop := ∃ Ae ce Ao co Ai ci svO svI, GPT w g N E Ae ce Ao co Ai ci svO svI
theorem TabT.tab {w : World} {A : Option Addr} {svs : List Value} {key : Ed → Nat} {E : List Ed} {N : Nat} (h : TabT w A svs key E N) : Tab w A svs key E N := ⟨h.1.1, fun v hv => by obtain ⟨B, c, h1, h2⟩ := h.2 v hv; exact ⟨B, c, h1, h2.1⟩⟩
theorem GT.at_ {w : World} {g N : Nat} {E : List Ed} (h : GT w g N E) : GAt w g N E := by
  obtain ⟨Ae, ce, Ao, co, Ai, ci, svO, svI, h⟩ := h
  exact ⟨Ae, ce, Ao, co, Ai, ci, svO, svI, ⟨h.blk, h.edges.1, h.out.tab, h.inn.tab⟩⟩
theorem TabT.kp {ts : List TypeId} {w w' : World} {A : Option Addr} {svs : List Value} {key : Ed → Nat} {E : List Ed} {N : Nat} (h : TabT w A svs key E N) (hk : Fw.Kp ts w w') (h1 : ts.contains 47 = false) (h2 : ts.contains 3 = false) : TabT w' A svs key E N :=
  ⟨h.1.kp hk h1, fun v hv => by obtain ⟨B, c, e, hr⟩ := h.2 v hv; exact ⟨B, c, e, hr.kp hk h2⟩⟩
theorem GT.kp {ts : List TypeId} {w w' : World} {g N : Nat} {E : List Ed} (h : GT w g N E) (hk : Fw.Kp ts w w') (h0 : ts.contains 107 = false) (h1 : ts.contains 47 = false) (h2 : ts.contains 3 = false) (h3 : ts.contains 29 = false) : GT w' g N E := by
  obtain ⟨Ae, ce, Ao, co, Ai, ci, svO, svI, h⟩ := h
  exact ⟨Ae, ce, Ao, co, Ai, ci, svO, svI, ⟨h.blk.kp hk h0, h.edges.kp hk h3, h.out.kp hk h1 h2, h.inn.kp hk h1 h2⟩⟩
theorem GT.low {w w' : World} {g N : Nat} {E : List Ed} (h : GT w g N E) (hb : Below w.heap.size w w') : GT w' g N E := h.kp (ts := []) ((Fw.Kp.refl _ w).low hb) rfl rfl rfl rfl
/-- the tables of a graph that is done -/
theorem tab_of {w : World} {base N M off : Nat} {r : Nat → Value} {c : Nat → List Nat} {g cc b : Nat} {key : Ed → Nat} {E : List Ed} (hr : Rws w base M r c) (hM : off + N ≤ M) (hc : ∀ v, v < N → c (off + v) = adj key E v)
    (ho : w.ownsRow b 47 1 (.slice (some ⟨g, 0, none⟩) N cc) N ((List.range N).map fun i => r (off + i))) : TabT w (some ⟨g, 0, none⟩) ((List.range N).map fun i => r (off + i)) key E N :=
  ⟨Fw.RdT.own ho, fun v hv => by
    have h1 := hr.own (off + v) (by omega)
    rw [hc v hv] at h1
    obtain ⟨A, c2, e⟩ := own_form h1
    rw [e] at h1
    exact ⟨A, c2, by rw [List.getElem?_map, List.getElem?_range hv]; exact congrArg some e, Fw.RdT.own h1⟩⟩
end Rg
set_option maxRecDepth 100000 in
set_option maxHeartbeats 4000000 in
theorem build_any (w : World) (N : Nat) (E : List Rg.Ed) (Ae : Option Addr) (ce : Nat) (hET : Fw.RdT w 29 Ae (E.flatMap Rg.Ed.cells)) (hEO : Rg.EOk N E) (hEl : E.length ≤ 65536) (hN : N ≤ 4096) : Calls Try.prog 26 #[.int .i64 (N : Int), .slice Ae E.length ce] w fun e_ w' => ∃ g', e_ = .returned (.pointer (some ⟨g', 0, none⟩)) ∧ Rg.GT w' g' N E ∧ w.heap.size ≤ g' ∧ Below w.heap.size w w' := by
  have hE := hET.1
  refine Fw.calls Try.func26 rfl Try.ntmps26 rfl ?_
  have HB := Below.refl (w.heap.size) w
  refine Fw.seq fun _ hK1 => ?_
  refine Fw.region ?_
  refine Fw.s (Fw.val_assign rfl) rfl ?_
  refine Fw.nil ?_
  refine hK1 _ _ ?_
  refine Fw.seq_cutE (α := Nat × Nat × Nat) (fun x_ => match x_ with | ⟨gn, gO, gI⟩ => [(0, .int .i64 (N : Int)), (1, .slice Ae E.length ce), (5, .pointer (some ⟨gn, 0, none⟩))]) (fun x_ W_ => match x_ with | ⟨gn, gO, gI⟩ => Blk W_ gn 107 #[.slice Ae E.length ce, .slice (some ⟨gO, 0, none⟩) N N, .slice (some ⟨gI, 0, none⟩) N N] ∧ World.ownsRow W_ w.heap.size 47 1 (.slice (some ⟨gO, 0, none⟩) N N) N ((List.range N).map fun i => (fun _ => .slice none 0 0 : Nat → Value) (0 + i)) ∧ World.ownsRow W_ w.heap.size 47 1 (.slice (some ⟨gI, 0, none⟩) N N) N ((List.range N).map fun i => (fun _ => .slice none 0 0 : Nat → Value) (N + i)) ∧ (w.heap.size ≤ gn ∧ w.heap.size ≤ gO ∧ w.heap.size ≤ gI) ∧ (gO ≠ gI ∧ gn ≠ gO ∧ gn ≠ gI) ∧ Below (w.heap.size) w W_) ?_ (fun _ hK2 => ?_)
  rintro ⟨gn, gO, gI⟩ w1 ⟨Hn, HO, HI, hl3, hne, HB⟩
  show Fw.FC _ _ _ _ _ [(0, .int .i64 (N : Int)), (1, .slice Ae E.length ce), (5, .pointer (some ⟨gn, 0, none⟩))] _
  refine Fw.seq fun _ hK3 => ?_
  refine Fw.seq fun _ hK4 => ?_
  refine Fw.region ?_
  refine Fw.s (Fw.val_move rfl) rfl ?_
  refine Fw.s (Fw.val_len Try.underlying30 rfl) rfl ?_
  refine Fw.s (Fw.val_move rfl) rfl ?_
  refine Fw.nil ?_
  refine hK4 _ _ ?_
  refine Fw.block ?_
  have HR : Rg.Rws w1 w.heap.size (2 * N) (fun _ => .slice none 0 0 : Nat → Value) (Rg.cont E N 0) := (Rg.Rws.start _ _ _).ext (fun i _ => Rg.cont0 E N i)
  refine Fw.loop (fun m_ f_ W_ => ∃ (k : Nat) (r : Nat → Value), m_ = E.length - k ∧ k ≤ E.length ∧ Blk W_ gn 107 #[.slice Ae E.length ce, .slice (some ⟨gO, 0, none⟩) N N, .slice (some ⟨gI, 0, none⟩) N N] ∧ World.ownsRow W_ w.heap.size 47 1 (.slice (some ⟨gO, 0, none⟩) N N) N ((List.range N).map fun i => r (0 + i)) ∧ World.ownsRow W_ w.heap.size 47 1 (.slice (some ⟨gI, 0, none⟩) N N) N ((List.range N).map fun i => r (N + i)) ∧ Rg.Rws W_ w.heap.size (2 * N) r (Rg.cont E N k) ∧ Below (w.heap.size) w W_ ∧ f_ = [(17, .int .i64 k), (16, .int .i64 E.length), (15, .slice Ae E.length ce), (5, .pointer (some ⟨gn, 0, none⟩))]) ⟨_, _, ⟨0, (fun _ => .slice none 0 0 : Nat → Value), rfl, Nat.zero_le _, Hn, HO, HI, HR, HB, rfl⟩, (.cons rfl (.cons rfl (.cons rfl (.cons rfl .nil))))⟩ ?_
  clear Hn HO HI HR HB
  rintro m5_ _ w2 ⟨k, r, hm5_, hkl, Hn, HO, HI, HR, HB, rfl⟩
  refine Fw.seq fun _ hK6 => ?_
  refine Fw.region ?_
  refine Fw.s2 (Fw.val_bin rfl rfl Fw.b_lss) rfl ?_ ?_
  rintro hlt
  refine Fw.nil ?_
  refine hK6 _ _ ?_
  refine Fw.seq fun _ hK8 => ?_
  refine Fw.condT rfl ?_
  refine Fw.skip ?_
  refine hK8 _ _ ?_
  refine Fw.seq fun _ hK9 => ?_
  refine Fw.block ?_
  refine Fw.seq fun _ hK10 => ?_
  have hkl2 : k < E.length := by omega
  obtain ⟨ae, be_, oe_, hAe, hadde, HEe⟩ := Fw.rdAt Rg.Ed.len (by decide) hE k hkl2
  have hke := hEO _ (List.getElem_mem hkl2)
  refine Fw.region ?_
  refine Fw.s (Fw.val_move rfl) rfl ?_
  refine Fw.s (Fw.val_indexR Try.underlying30 sz29 rfl hAe rfl rfl hkl2 hadde) rfl ?_
  refine Fw.ldA ag29 rfl ((HEe.low HB)) rfl rfl ?_
  refine Fw.alloc ze29 rfl ?_
  intro w3 ge ege He hb
  have n_geO : ge ≠ gO := by have := (HO.lt gO rfl).2; omega
  have n_geI : ge ≠ gI := by have := (HI.lt gI rfl).2; omega
  have n_gn_ge : gn < ge := by have := Hn.lt; omega
  have lge : w.heap.size ≤ ge := by have := HB.size; omega
  replace Hn := Hn.low hb
  replace HO := own_below HO hb (Nat.le_refl _)
  replace HI := own_below HI hb (Nat.le_refl _)
  replace HR := HR.low hb
  replace HB := HB.trans (hb.mono HB.size)
  clear hb
  clear ege
  refine Fw.s (Fw.val_assign rfl) rfl ?_
  refine Fw.storeW sz29 rfl rfl He rfl rfl (by exact Fw.oneCells rfl) ?_
  intro w4 N_ hc
  replace Hn := Hn.chg hc (by omega)
  replace HO := own_to HO hc (fun g_ h_ e_ => by injection h_ with h_; have h_ : gO = g_ := h_; have e_ : g_ = ge := e_; omega)
  replace HI := own_to HI hc (fun g_ h_ e_ => by injection h_ with h_; have h_ : gI = g_ := h_; have e_ : g_ = ge := e_; omega)
  replace HR := HR.chgB hc He (by decide)
  replace HB := HB.trans (hc.below (B := w.heap.size) (fun k e => by omega) HB.size)
  clear hc
  clear He
  have He := N_
  clear N_
  replace He : Blk w4 ge 29 #[.int .i64 (E[k].f : Int), .int .i64 (E[k].t : Int), .int .i64 E[k].m] := He
  refine Fw.nil ?_
  refine hK10 _ _ ?_
  refine Fw.seq fun _ hK12 => ?_
  have hBr : w.heap.size ≤ w4.heap.size := HB.size
  refine Fw.regionHS (fun W_ => Below (w.heap.size) w4 W_ ∧ Blk W_ gn 107 #[.slice Ae E.length ce, .slice (some ⟨gO, 0, none⟩) N N, .slice (some ⟨gI, 0, none⟩) N N] ∧ Blk W_ ge 29 #[.int .i64 (E[k].f : Int), .int .i64 (E[k].t : Int), .int .i64 E[k].m]) (by kernel_rfl) ⟨(Fw.drew_low w4).mono hBr, Hn.low (Fw.drew_low w4), He.low (Fw.drew_low w4)⟩ ?_
  have R_Hn := Hn
  have R_He := He
  have R_HB := HB
  intro w5 hb HS
  replace HS := HS.1
  replace Hn := Hn.low hb
  replace HO := own_below HO hb (Nat.le_refl _)
  replace HI := own_below HI hb (Nat.le_refl _)
  replace HR := HR.low hb
  replace He := He.low hb
  replace HB := HB.trans (hb.mono HB.size)
  clear hb
  refine Fw.hTk 0 rfl rfl (Fw.yV (Fw.val_move rfl)) rfl ?_
  refine Fw.hTk 1 rfl rfl (Fw.yV (Fw.val_nil rfl)) rfl ?_
  refine Fw.hTk 2 rfl rfl (Fw.yV (Fw.val_fieldAddr fl107_1 rfl rfl)) rfl ?_
  refine Fw.hTk 3 rfl rfl (Fw.yV (Fw.val_load sc105 rfl (fun _ h_ => h_.2.1.cell 1))) rfl ?_
  refine Fw.hTk 4 rfl rfl (Fw.yV (Fw.val_fieldAddr fl29_0 rfl rfl)) rfl ?_
  refine Fw.hTk 5 rfl rfl (Fw.yV (Fw.val_load sc3 rfl (fun _ h_ => h_.2.2.cell 0))) rfl ?_
  refine Fw.hTk 6 rfl rfl (Fw.yV (Fw.val_move rfl)) rfl ?_
  refine Fw.hTk 7 rfl rfl (Fw.yV (Fw.val_nil rfl)) rfl ?_
  refine Fw.hTk 8 rfl rfl (Fw.yV (Fw.val_fieldAddr fl107_1 rfl rfl)) rfl ?_
  refine Fw.hTk 9 rfl rfl (Fw.yV (Fw.val_load sc105 rfl (fun _ h_ => h_.2.1.cell 1))) rfl ?_
  refine Fw.hTk 10 rfl rfl (Fw.yV (Fw.val_fieldAddr fl29_0 rfl rfl)) rfl ?_
  refine Fw.hTk 11 rfl rfl (Fw.yV (Fw.val_load sc3 rfl (fun _ h_ => h_.2.2.cell 0))) rfl ?_
  have HC1 := Rg.own_cellR (r := r) (off := 0) HO _ hke.1
  refine Fw.hTk 12 rfl rfl (Fw.yV (Fw.val_indexR Try.underlying105 sz47 rfl rfl rfl rfl hke.1 (by rw [Fw.add_flat, Nat.zero_add, Nat.mul_one]))) rfl ?_
  refine Fw.hTk 14 rfl rfl (Fw.yV (Fw.val_move rfl)) rfl ?_
  refine Fw.hAll2 13 15 (by kernel_rfl) ?_ ?_
  refine Fw.hOp 13 rfl ?_
  refine Fw.ld sc47 rfl (HC1) rfl ?_
  refine Fw.hNext ⟨HS, Hn, He⟩ ?_
  refine Fw.hAll1 15 (by kernel_rfl) ?_
  refine Fw.hOp 15 rfl ?_
  refine Fw.buildSlice [_] sl47 rfl rfl (by exact Fw.allSz rfl) (by decide) rfl ?_
  intro w6 gS37 egS37 HS37 hb
  have rgS37 : w4.heap.size ≤ gS37 := by have := HS.size; omega
  have n_gn_gS37 : gn < gS37 := by have := Hn.lt; omega
  have n_ge_gS37 : ge < gS37 := by have := He.lt; omega
  have lgS37 : w.heap.size ≤ gS37 := by have := HB.size; omega
  replace Hn := Hn.low hb
  replace HO := own_below HO hb (Nat.le_refl _)
  replace HI := own_below HI hb (Nat.le_refl _)
  replace HR := HR.low hb
  replace He := He.low hb
  replace HS := HS.trans (hb.mono (Nat.le_trans hBr HS.size))
  replace HC1 := (hb.cell (World.block_lt_of_cell? _ _ HC1)).trans HC1
  replace HB := HB.trans (hb.mono HB.size)
  clear hb
  clear egS37
  refine Fw.hNext ⟨HS, Hn, He⟩ ?_
  refine Fw.hAll1 16 (by kernel_rfl) ?_
  refine Fw.hOp 16 rfl ?_
  have hlc : ((Rg.cont E N k) (0 + E[k].f)).length ≤ E.length := (by rw [Nat.zero_add, Rg.cont_out hke.1]; exact Nat.le_trans Rg.adj_len (by rw [List.length_take]; omega))
  refine Fw.append ((Rg.cont E N k) (0 + E[k].f) ++ [k]).length (Rg.ints ((Rg.cont E N k) (0 + E[k].f) ++ [k])) sl47 rfl rfl (HR.own (0 + E[k].f) (by omega)) (Rg.one_nat HS37) rfl (Fw.oneCellsL rfl) (by unfold maxLen; omega) HB.size (by simp) (Rg.ints_app _ _) rfl ?_
  intro A38 c38 w7 N_ hbb hc hrow
  replace HS := HS.trans hbb
  replace HB := HB.trans hbb
  replace Hn := Hn.chg hc (fun e => own_ne_blk (HR.own (0 + E[k].f) (by omega)) Hn (by decide) e.symm)
  replace He := He.chg hc (fun e => own_ne_blk (HR.own (0 + E[k].f) (by omega)) He (by decide) e.symm)
  obtain ⟨_, HObk, _⟩ := Fw.own_at HO
  obtain ⟨_, HIbk, _⟩ := Fw.own_at HI
  replace HO := own_to HO hc (fun g_ h_ e_ => own_ne_blk (HR.own (0 + E[k].f) (by omega)) HObk (by decide) (by rw [← e_]; injection h_ with h_; exact congrArg some h_.symm))
  replace HI := own_to HI hc (fun g_ h_ e_ => own_ne_blk (HR.own (0 + E[k].f) (by omega)) HIbk (by decide) (by rw [← e_]; injection h_ with h_; exact congrArg some h_.symm))
  replace HR := HR.app (i := (0 + E[k].f)) (by omega) hc rfl N_ hrow
  replace HR : Rg.Rws w7 w.heap.size (2 * N) (fun j => if j = 0 + E[k].f then Value.slice A38 ((Rg.cont E N k) (0 + E[k].f) ++ [k]).length c38 else r j) (Rg.c2 E N k hkl2) := HR
  clear hbb hc hrow N_ HObk HIbk HS37 hlc
  clear HC1
  refine Fw.hNext ⟨HS, Hn, He⟩ ?_
  have EW14 := True.intro
  refine Fw.hTk 17 rfl rfl (Fw.yV (Fw.val_indexR Try.underlying105 sz47 rfl rfl rfl rfl hke.1 (by rw [Fw.add_flat, Nat.zero_add, Nat.mul_one]))) rfl ?_
  refine Fw.hAll1 18 (by kernel_rfl) ?_
  refine Fw.hOp 18 rfl ?_
  refine Fw.storeR sz47 rfl rfl HO (by simpa using hke.1) rfl rfl ?_
  intro w8 N_ hc
  replace Hn := Hn.chg hc (by omega)
  replace HI := own_to HI hc (fun g_ h_ e_ => by injection h_ with h_; have h_ : gI = g_ := h_; have e_ : g_ = gO := e_; omega)
  replace HR := HR.chgO hc HO (by decide)
  replace He := He.chg hc (by omega)
  replace HS := HS.trans (hc.below (fun k e => by omega) (Nat.le_trans hBr HS.size))
  replace HB := HB.trans (hc.below (B := w.heap.size) (fun k e => by omega) HB.size)
  clear hc
  clear HO EW14
  have HO := N_
  clear N_
  replace HO : World.ownsRow w8 w.heap.size 47 1 (.slice (some ⟨gO, 0, none⟩) N N) N ((List.range N).map fun i => (fun j => if j = 0 + E[k].f then Value.slice A38 ((Rg.cont E N k) (0 + E[k].f) ++ [k]).length c38 else r j) (0 + i)) := Rg.own_set r 0 HO hke.1
  replace HI : World.ownsRow w8 w.heap.size 47 1 (.slice (some ⟨gI, 0, none⟩) N N) N ((List.range N).map fun i => (fun j => if j = 0 + E[k].f then Value.slice A38 ((Rg.cont E N k) (0 + E[k].f) ++ [k]).length c38 else r j) (N + i)) := Rg.own_oth r N _ HI (fun j hj => by omega)
  refine Fw.hNext ⟨HS, Hn, He⟩ ?_
  refine Fw.hDone (by kernel_rfl) ?_
  refine hK12 _ _ (Fw.FC.sub (f' := [(6, _), (7, _), (17, _), (16, _), (15, _), (5, _)]) (.cons rfl (.cons rfl (.cons rfl (.cons rfl (.cons rfl (.cons rfl .nil)))))) ?_)
  have hBr : w.heap.size ≤ w8.heap.size := HB.size
  refine Fw.regionHS (fun W_ => Below (w.heap.size) w8 W_ ∧ Blk W_ gn 107 #[.slice Ae E.length ce, .slice (some ⟨gO, 0, none⟩) N N, .slice (some ⟨gI, 0, none⟩) N N] ∧ Blk W_ ge 29 #[.int .i64 (E[k].f : Int), .int .i64 (E[k].t : Int), .int .i64 E[k].m]) (by kernel_rfl) ⟨(Fw.drew_low w8).mono hBr, Hn.low (Fw.drew_low w8), He.low (Fw.drew_low w8)⟩ ?_
  have R_Hn := Hn
  have R_He := He
  have R_HB := HB
  intro w9 hb HS
  replace HS := HS.1
  replace Hn := Hn.low hb
  replace HO := own_below HO hb (Nat.le_refl _)
  replace HI := own_below HI hb (Nat.le_refl _)
  replace HR := HR.low hb
  replace He := He.low hb
  replace HB := HB.trans (hb.mono HB.size)
  clear hb
  refine Fw.hTk 0 rfl rfl (Fw.yV (Fw.val_move rfl)) rfl ?_
  refine Fw.hTk 1 rfl rfl (Fw.yV (Fw.val_nil rfl)) rfl ?_
  refine Fw.hTk 2 rfl rfl (Fw.yV (Fw.val_fieldAddr fl107_2 rfl rfl)) rfl ?_
  refine Fw.hTk 3 rfl rfl (Fw.yV (Fw.val_load sc105 rfl (fun _ h_ => h_.2.1.cell 2))) rfl ?_
  refine Fw.hTk 4 rfl rfl (Fw.yV (Fw.val_fieldAddr fl29_1 rfl rfl)) rfl ?_
  refine Fw.hTk 5 rfl rfl (Fw.yV (Fw.val_load sc3 rfl (fun _ h_ => h_.2.2.cell 1))) rfl ?_
  refine Fw.hTk 6 rfl rfl (Fw.yV (Fw.val_move rfl)) rfl ?_
  refine Fw.hTk 7 rfl rfl (Fw.yV (Fw.val_nil rfl)) rfl ?_
  refine Fw.hTk 8 rfl rfl (Fw.yV (Fw.val_fieldAddr fl107_2 rfl rfl)) rfl ?_
  refine Fw.hTk 9 rfl rfl (Fw.yV (Fw.val_load sc105 rfl (fun _ h_ => h_.2.1.cell 2))) rfl ?_
  refine Fw.hTk 10 rfl rfl (Fw.yV (Fw.val_fieldAddr fl29_1 rfl rfl)) rfl ?_
  refine Fw.hTk 11 rfl rfl (Fw.yV (Fw.val_load sc3 rfl (fun _ h_ => h_.2.2.cell 1))) rfl ?_
  have HC2 := Rg.own_cellR (r := (fun j => if j = 0 + E[k].f then Value.slice A38 ((Rg.cont E N k) (0 + E[k].f) ++ [k]).length c38 else r j)) (off := N) HI _ hke.2
  refine Fw.hTk 12 rfl rfl (Fw.yV (Fw.val_indexR Try.underlying105 sz47 rfl rfl rfl rfl hke.2 (by rw [Fw.add_flat, Nat.zero_add, Nat.mul_one]))) rfl ?_
  refine Fw.hTk 14 rfl rfl (Fw.yV (Fw.val_move rfl)) rfl ?_
  refine Fw.hAll2 13 15 (by kernel_rfl) ?_ ?_
  refine Fw.hOp 13 rfl ?_
  refine Fw.ld sc47 rfl (HC2) rfl ?_
  refine Fw.hNext ⟨HS, Hn, He⟩ ?_
  refine Fw.hAll1 15 (by kernel_rfl) ?_
  refine Fw.hOp 15 rfl ?_
  refine Fw.buildSlice [_] sl47 rfl rfl (by exact Fw.allSz rfl) (by decide) rfl ?_
  intro w10 gS55 egS55 HS55 hb
  have rgS55 : w8.heap.size ≤ gS55 := by have := HS.size; omega
  have n_gn_gS55 : gn < gS55 := by have := Hn.lt; omega
  have n_ge_gS55 : ge < gS55 := by have := He.lt; omega
  have lgS55 : w.heap.size ≤ gS55 := by have := HB.size; omega
  replace Hn := Hn.low hb
  replace HO := own_below HO hb (Nat.le_refl _)
  replace HI := own_below HI hb (Nat.le_refl _)
  replace HR := HR.low hb
  replace He := He.low hb
  replace HS := HS.trans (hb.mono (Nat.le_trans hBr HS.size))
  replace HC2 := (hb.cell (World.block_lt_of_cell? _ _ HC2)).trans HC2
  replace HB := HB.trans (hb.mono HB.size)
  clear hb
  clear egS55
  refine Fw.hNext ⟨HS, Hn, He⟩ ?_
  refine Fw.hAll1 16 (by kernel_rfl) ?_
  refine Fw.hOp 16 rfl ?_
  have hlc : ((Rg.c2 E N k hkl2) (N + E[k].t)).length ≤ E.length := Rg.c2_len hkl2 hke.1
  refine Fw.append ((Rg.c2 E N k hkl2) (N + E[k].t) ++ [k]).length (Rg.ints ((Rg.c2 E N k hkl2) (N + E[k].t) ++ [k])) sl47 rfl rfl (HR.own (N + E[k].t) (by omega)) (Rg.one_nat HS55) rfl (Fw.oneCellsL rfl) (by unfold maxLen; omega) HB.size (by simp) (Rg.ints_app _ _) rfl ?_
  intro A56 c56 w11 N_ hbb hc hrow
  replace HS := HS.trans hbb
  replace HB := HB.trans hbb
  replace Hn := Hn.chg hc (fun e => own_ne_blk (HR.own (N + E[k].t) (by omega)) Hn (by decide) e.symm)
  replace He := He.chg hc (fun e => own_ne_blk (HR.own (N + E[k].t) (by omega)) He (by decide) e.symm)
  obtain ⟨_, HObk, _⟩ := Fw.own_at HO
  obtain ⟨_, HIbk, _⟩ := Fw.own_at HI
  replace HO := own_to HO hc (fun g_ h_ e_ => own_ne_blk (HR.own (N + E[k].t) (by omega)) HObk (by decide) (by rw [← e_]; injection h_ with h_; exact congrArg some h_.symm))
  replace HI := own_to HI hc (fun g_ h_ e_ => own_ne_blk (HR.own (N + E[k].t) (by omega)) HIbk (by decide) (by rw [← e_]; injection h_ with h_; exact congrArg some h_.symm))
  replace HR := HR.app (i := (N + E[k].t)) (by omega) hc rfl N_ hrow
  replace HR : Rg.Rws w11 w.heap.size (2 * N) (fun j => if j = N + E[k].t then Value.slice A56 ((Rg.c2 E N k hkl2) (N + E[k].t) ++ [k]).length c56 else (fun j => if j = 0 + E[k].f then Value.slice A38 ((Rg.cont E N k) (0 + E[k].f) ++ [k]).length c38 else r j) j) (Rg.cont E N (k + 1)) := HR.ext (Rg.cont_step hkl2 hke.1 hke.2)
  clear hbb hc hrow N_ HObk HIbk HS55 hlc
  clear HC2
  refine Fw.hNext ⟨HS, Hn, He⟩ ?_
  have EW17 := True.intro
  refine Fw.hTk 17 rfl rfl (Fw.yV (Fw.val_indexR Try.underlying105 sz47 rfl rfl rfl rfl hke.2 (by rw [Fw.add_flat, Nat.zero_add, Nat.mul_one]))) rfl ?_
  refine Fw.hAll1 18 (by kernel_rfl) ?_
  refine Fw.hOp 18 rfl ?_
  refine Fw.storeR sz47 rfl rfl HI (by simpa using hke.2) rfl rfl ?_
  intro w12 N_ hc
  replace Hn := Hn.chg hc (by omega)
  replace HO := own_to HO hc (fun g_ h_ e_ => by injection h_ with h_; have h_ : gO = g_ := h_; have e_ : g_ = gI := e_; omega)
  replace HR := HR.chgO hc HI (by decide)
  replace He := He.chg hc (by omega)
  replace HS := HS.trans (hc.below (fun k e => by omega) (Nat.le_trans hBr HS.size))
  replace HB := HB.trans (hc.below (B := w.heap.size) (fun k e => by omega) HB.size)
  clear hc
  clear HI EW17
  have HI := N_
  clear N_
  replace HI : World.ownsRow w12 w.heap.size 47 1 (.slice (some ⟨gI, 0, none⟩) N N) N ((List.range N).map fun i => (fun j => if j = N + E[k].t then Value.slice A56 ((Rg.c2 E N k hkl2) (N + E[k].t) ++ [k]).length c56 else (fun j => if j = 0 + E[k].f then Value.slice A38 ((Rg.cont E N k) (0 + E[k].f) ++ [k]).length c38 else r j) j) (N + i)) := Rg.own_set (fun j => if j = 0 + E[k].f then Value.slice A38 ((Rg.cont E N k) (0 + E[k].f) ++ [k]).length c38 else r j) N HI hke.2
  replace HO : World.ownsRow w12 w.heap.size 47 1 (.slice (some ⟨gO, 0, none⟩) N N) N ((List.range N).map fun i => (fun j => if j = N + E[k].t then Value.slice A56 ((Rg.c2 E N k hkl2) (N + E[k].t) ++ [k]).length c56 else (fun j => if j = 0 + E[k].f then Value.slice A38 ((Rg.cont E N k) (0 + E[k].f) ++ [k]).length c38 else r j) j) (0 + i)) := Rg.own_oth (fun j => if j = 0 + E[k].f then Value.slice A38 ((Rg.cont E N k) (0 + E[k].f) ++ [k]).length c38 else r j) 0 _ HO (fun j hj => by omega)
  refine Fw.hNext ⟨HS, Hn, He⟩ ?_
  refine Fw.hDone (by kernel_rfl) ?_
  refine Fw.X_blockN ?_
  refine hK9 _ _ (Fw.FC.sub (f' := [(17, _), (16, _), (15, _), (5, _)]) (.cons rfl (.cons rfl (.cons rfl (.cons rfl .nil)))) ?_)
  refine Fw.region ?_
  refine Fw.s (Fw.val_bin rfl rfl (Fw.b_add (Fw.i64_ok (by omega)))) rfl ?_
  refine Fw.s (Fw.val_move rfl) rfl ?_
  refine Fw.nil ?_
  refine Fw.roundEnd _ _ (by omega) ⟨k + 1, (fun j => if j = N + E[k].t then Value.slice A56 ((Rg.c2 E N k hkl2) (N + E[k].t) ++ [k]).length c56 else (fun j => if j = 0 + E[k].f then Value.slice A38 ((Rg.cont E N k) (0 + E[k].f) ++ [k]).length c38 else r j) j), rfl, by omega, Hn, HO, HI, HR, HB, rfl⟩ (.cons rfl (.cons rfl (.cons rfl (.cons rfl .nil))))
  refine Fw.hOp 15 rfl ?_
  refine Fw.buildSlice [_] sl47 rfl rfl (by exact Fw.allSz rfl) (by decide) rfl ?_
  intro w13 gS55 egS55 HS55 hb
  have rgS55 : w8.heap.size ≤ gS55 := by have := HS.size; omega
  have n_gn_gS55 : gn < gS55 := by have := Hn.lt; omega
  have n_ge_gS55 : ge < gS55 := by have := He.lt; omega
  have lgS55 : w.heap.size ≤ gS55 := by have := HB.size; omega
  replace Hn := Hn.low hb
  replace HO := own_below HO hb (Nat.le_refl _)
  replace HI := own_below HI hb (Nat.le_refl _)
  replace HR := HR.low hb
  replace He := He.low hb
  replace HS := HS.trans (hb.mono (Nat.le_trans hBr HS.size))
  replace HC2 := (hb.cell (World.block_lt_of_cell? _ _ HC2)).trans HC2
  replace HB := HB.trans (hb.mono HB.size)
  clear hb
  clear egS55
  refine Fw.hNext ⟨HS, Hn, He⟩ ?_
  refine Fw.hAll1 13 (by kernel_rfl) ?_
  refine Fw.hOp 13 rfl ?_
  refine Fw.ld sc47 rfl (HC2) rfl ?_
  refine Fw.hNext ⟨HS, Hn, He⟩ ?_
  refine Fw.hAll1 16 (by kernel_rfl) ?_
  refine Fw.hOp 16 rfl ?_
  have hlc : ((Rg.c2 E N k hkl2) (N + E[k].t)).length ≤ E.length := Rg.c2_len hkl2 hke.1
  refine Fw.append ((Rg.c2 E N k hkl2) (N + E[k].t) ++ [k]).length (Rg.ints ((Rg.c2 E N k hkl2) (N + E[k].t) ++ [k])) sl47 rfl rfl (HR.own (N + E[k].t) (by omega)) (Rg.one_nat HS55) rfl (Fw.oneCellsL rfl) (by unfold maxLen; omega) HB.size (by simp) (Rg.ints_app _ _) rfl ?_
  intro A56 c56 w14 N_ hbb hc hrow
  replace HS := HS.trans hbb
  replace HB := HB.trans hbb
  replace Hn := Hn.chg hc (fun e => own_ne_blk (HR.own (N + E[k].t) (by omega)) Hn (by decide) e.symm)
  replace He := He.chg hc (fun e => own_ne_blk (HR.own (N + E[k].t) (by omega)) He (by decide) e.symm)
  obtain ⟨_, HObk, _⟩ := Fw.own_at HO
  obtain ⟨_, HIbk, _⟩ := Fw.own_at HI
  replace HO := own_to HO hc (fun g_ h_ e_ => own_ne_blk (HR.own (N + E[k].t) (by omega)) HObk (by decide) (by rw [← e_]; injection h_ with h_; exact congrArg some h_.symm))
  replace HI := own_to HI hc (fun g_ h_ e_ => own_ne_blk (HR.own (N + E[k].t) (by omega)) HIbk (by decide) (by rw [← e_]; injection h_ with h_; exact congrArg some h_.symm))
  replace HR := HR.app (i := (N + E[k].t)) (by omega) hc rfl N_ hrow
  replace HR : Rg.Rws w14 w.heap.size (2 * N) (fun j => if j = N + E[k].t then Value.slice A56 ((Rg.c2 E N k hkl2) (N + E[k].t) ++ [k]).length c56 else (fun j => if j = 0 + E[k].f then Value.slice A38 ((Rg.cont E N k) (0 + E[k].f) ++ [k]).length c38 else r j) j) (Rg.cont E N (k + 1)) := HR.ext (Rg.cont_step hkl2 hke.1 hke.2)
  clear hbb hc hrow N_ HObk HIbk HS55 hlc
  clear HC2
  refine Fw.hNext ⟨HS, Hn, He⟩ ?_
  have EW19 := True.intro
  refine Fw.hTk 17 rfl rfl (Fw.yV (Fw.val_indexR Try.underlying105 sz47 rfl rfl rfl rfl hke.2 (by rw [Fw.add_flat, Nat.zero_add, Nat.mul_one]))) rfl ?_
  refine Fw.hAll1 18 (by kernel_rfl) ?_
  refine Fw.hOp 18 rfl ?_
  refine Fw.storeR sz47 rfl rfl HI (by simpa using hke.2) rfl rfl ?_
  intro w15 N_ hc
  replace Hn := Hn.chg hc (by omega)
  replace HO := own_to HO hc (fun g_ h_ e_ => by injection h_ with h_; have h_ : gO = g_ := h_; have e_ : g_ = gI := e_; omega)
  replace HR := HR.chgO hc HI (by decide)
  replace He := He.chg hc (by omega)
  replace HS := HS.trans (hc.below (fun k e => by omega) (Nat.le_trans hBr HS.size))
  replace HB := HB.trans (hc.below (B := w.heap.size) (fun k e => by omega) HB.size)
  clear hc
  clear HI EW19
  have HI := N_
  clear N_
  replace HI : World.ownsRow w15 w.heap.size 47 1 (.slice (some ⟨gI, 0, none⟩) N N) N ((List.range N).map fun i => (fun j => if j = N + E[k].t then Value.slice A56 ((Rg.c2 E N k hkl2) (N + E[k].t) ++ [k]).length c56 else (fun j => if j = 0 + E[k].f then Value.slice A38 ((Rg.cont E N k) (0 + E[k].f) ++ [k]).length c38 else r j) j) (N + i)) := Rg.own_set (fun j => if j = 0 + E[k].f then Value.slice A38 ((Rg.cont E N k) (0 + E[k].f) ++ [k]).length c38 else r j) N HI hke.2
  replace HO : World.ownsRow w15 w.heap.size 47 1 (.slice (some ⟨gO, 0, none⟩) N N) N ((List.range N).map fun i => (fun j => if j = N + E[k].t then Value.slice A56 ((Rg.c2 E N k hkl2) (N + E[k].t) ++ [k]).length c56 else (fun j => if j = 0 + E[k].f then Value.slice A38 ((Rg.cont E N k) (0 + E[k].f) ++ [k]).length c38 else r j) j) (0 + i)) := Rg.own_oth (fun j => if j = 0 + E[k].f then Value.slice A38 ((Rg.cont E N k) (0 + E[k].f) ++ [k]).length c38 else r j) 0 _ HO (fun j hj => by omega)
  refine Fw.hNext ⟨HS, Hn, He⟩ ?_
  refine Fw.hDone (by kernel_rfl) ?_
  refine Fw.X_blockN ?_
  refine hK9 _ _ (Fw.FC.sub (f' := [(17, _), (16, _), (15, _), (5, _)]) (.cons rfl (.cons rfl (.cons rfl (.cons rfl .nil)))) ?_)
  refine Fw.region ?_
  refine Fw.s (Fw.val_bin rfl rfl (Fw.b_add (Fw.i64_ok (by omega)))) rfl ?_
  refine Fw.s (Fw.val_move rfl) rfl ?_
  refine Fw.nil ?_
  refine Fw.roundEnd _ _ (by omega) ⟨k + 1, (fun j => if j = N + E[k].t then Value.slice A56 ((Rg.c2 E N k hkl2) (N + E[k].t) ++ [k]).length c56 else (fun j => if j = 0 + E[k].f then Value.slice A38 ((Rg.cont E N k) (0 + E[k].f) ++ [k]).length c38 else r j) j), rfl, by omega, Hn, HO, HI, HR, HB, rfl⟩ (.cons rfl (.cons rfl (.cons rfl (.cons rfl .nil))))
  refine Fw.hOp 15 rfl ?_
  refine Fw.buildSlice [_] sl47 rfl rfl (by exact Fw.allSz rfl) (by decide) rfl ?_
  intro w16 gS37 egS37 HS37 hb
  have rgS37 : w4.heap.size ≤ gS37 := by have := HS.size; omega
  have n_gn_gS37 : gn < gS37 := by have := Hn.lt; omega
  have n_ge_gS37 : ge < gS37 := by have := He.lt; omega
  have lgS37 : w.heap.size ≤ gS37 := by have := HB.size; omega
  replace Hn := Hn.low hb
  replace HO := own_below HO hb (Nat.le_refl _)
  replace HI := own_below HI hb (Nat.le_refl _)
  replace HR := HR.low hb
  replace He := He.low hb
  replace HS := HS.trans (hb.mono (Nat.le_trans hBr HS.size))
  replace HC1 := (hb.cell (World.block_lt_of_cell? _ _ HC1)).trans HC1
  replace HB := HB.trans (hb.mono HB.size)
  clear hb
  clear egS37
  refine Fw.hNext ⟨HS, Hn, He⟩ ?_
  refine Fw.hAll1 13 (by kernel_rfl) ?_
  refine Fw.hOp 13 rfl ?_
  refine Fw.ld sc47 rfl (HC1) rfl ?_
  refine Fw.hNext ⟨HS, Hn, He⟩ ?_
  refine Fw.hAll1 16 (by kernel_rfl) ?_
  refine Fw.hOp 16 rfl ?_
  have hlc : ((Rg.cont E N k) (0 + E[k].f)).length ≤ E.length := (by rw [Nat.zero_add, Rg.cont_out hke.1]; exact Nat.le_trans Rg.adj_len (by rw [List.length_take]; omega))
  refine Fw.append ((Rg.cont E N k) (0 + E[k].f) ++ [k]).length (Rg.ints ((Rg.cont E N k) (0 + E[k].f) ++ [k])) sl47 rfl rfl (HR.own (0 + E[k].f) (by omega)) (Rg.one_nat HS37) rfl (Fw.oneCellsL rfl) (by unfold maxLen; omega) HB.size (by simp) (Rg.ints_app _ _) rfl ?_
  intro A38 c38 w17 N_ hbb hc hrow
  replace HS := HS.trans hbb
  replace HB := HB.trans hbb
  replace Hn := Hn.chg hc (fun e => own_ne_blk (HR.own (0 + E[k].f) (by omega)) Hn (by decide) e.symm)
  replace He := He.chg hc (fun e => own_ne_blk (HR.own (0 + E[k].f) (by omega)) He (by decide) e.symm)
  obtain ⟨_, HObk, _⟩ := Fw.own_at HO
  obtain ⟨_, HIbk, _⟩ := Fw.own_at HI
  replace HO := own_to HO hc (fun g_ h_ e_ => own_ne_blk (HR.own (0 + E[k].f) (by omega)) HObk (by decide) (by rw [← e_]; injection h_ with h_; exact congrArg some h_.symm))
  replace HI := own_to HI hc (fun g_ h_ e_ => own_ne_blk (HR.own (0 + E[k].f) (by omega)) HIbk (by decide) (by rw [← e_]; injection h_ with h_; exact congrArg some h_.symm))
  replace HR := HR.app (i := (0 + E[k].f)) (by omega) hc rfl N_ hrow
  replace HR : Rg.Rws w17 w.heap.size (2 * N) (fun j => if j = 0 + E[k].f then Value.slice A38 ((Rg.cont E N k) (0 + E[k].f) ++ [k]).length c38 else r j) (Rg.c2 E N k hkl2) := HR
  clear hbb hc hrow N_ HObk HIbk HS37 hlc
  clear HC1
  refine Fw.hNext ⟨HS, Hn, He⟩ ?_
  have EW21 := True.intro
  refine Fw.hTk 17 rfl rfl (Fw.yV (Fw.val_indexR Try.underlying105 sz47 rfl rfl rfl rfl hke.1 (by rw [Fw.add_flat, Nat.zero_add, Nat.mul_one]))) rfl ?_
  refine Fw.hAll1 18 (by kernel_rfl) ?_
  refine Fw.hOp 18 rfl ?_
  refine Fw.storeR sz47 rfl rfl HO (by simpa using hke.1) rfl rfl ?_
  intro w18 N_ hc
  replace Hn := Hn.chg hc (by omega)
  replace HI := own_to HI hc (fun g_ h_ e_ => by injection h_ with h_; have h_ : gI = g_ := h_; have e_ : g_ = gO := e_; omega)
  replace HR := HR.chgO hc HO (by decide)
  replace He := He.chg hc (by omega)
  replace HS := HS.trans (hc.below (fun k e => by omega) (Nat.le_trans hBr HS.size))
  replace HB := HB.trans (hc.below (B := w.heap.size) (fun k e => by omega) HB.size)
  clear hc
  clear HO EW21
  have HO := N_
  clear N_
  replace HO : World.ownsRow w18 w.heap.size 47 1 (.slice (some ⟨gO, 0, none⟩) N N) N ((List.range N).map fun i => (fun j => if j = 0 + E[k].f then Value.slice A38 ((Rg.cont E N k) (0 + E[k].f) ++ [k]).length c38 else r j) (0 + i)) := Rg.own_set r 0 HO hke.1
  replace HI : World.ownsRow w18 w.heap.size 47 1 (.slice (some ⟨gI, 0, none⟩) N N) N ((List.range N).map fun i => (fun j => if j = 0 + E[k].f then Value.slice A38 ((Rg.cont E N k) (0 + E[k].f) ++ [k]).length c38 else r j) (N + i)) := Rg.own_oth r N _ HI (fun j hj => by omega)
  refine Fw.hNext ⟨HS, Hn, He⟩ ?_
  refine Fw.hDone (by kernel_rfl) ?_
  refine hK12 _ _ (Fw.FC.sub (f' := [(6, _), (7, _), (17, _), (16, _), (15, _), (5, _)]) (.cons rfl (.cons rfl (.cons rfl (.cons rfl (.cons rfl (.cons rfl .nil)))))) ?_)
  have hBr : w.heap.size ≤ w18.heap.size := HB.size
  refine Fw.regionHS (fun W_ => Below (w.heap.size) w18 W_ ∧ Blk W_ gn 107 #[.slice Ae E.length ce, .slice (some ⟨gO, 0, none⟩) N N, .slice (some ⟨gI, 0, none⟩) N N] ∧ Blk W_ ge 29 #[.int .i64 (E[k].f : Int), .int .i64 (E[k].t : Int), .int .i64 E[k].m]) (by kernel_rfl) ⟨(Fw.drew_low w18).mono hBr, Hn.low (Fw.drew_low w18), He.low (Fw.drew_low w18)⟩ ?_
  have R_Hn := Hn
  have R_He := He
  have R_HB := HB
  intro w19 hb HS
  replace HS := HS.1
  replace Hn := Hn.low hb
  replace HO := own_below HO hb (Nat.le_refl _)
  replace HI := own_below HI hb (Nat.le_refl _)
  replace HR := HR.low hb
  replace He := He.low hb
  replace HB := HB.trans (hb.mono HB.size)
  clear hb
  refine Fw.hTk 0 rfl rfl (Fw.yV (Fw.val_move rfl)) rfl ?_
  refine Fw.hTk 1 rfl rfl (Fw.yV (Fw.val_nil rfl)) rfl ?_
  refine Fw.hTk 2 rfl rfl (Fw.yV (Fw.val_fieldAddr fl107_2 rfl rfl)) rfl ?_
  refine Fw.hTk 3 rfl rfl (Fw.yV (Fw.val_load sc105 rfl (fun _ h_ => h_.2.1.cell 2))) rfl ?_
  refine Fw.hTk 4 rfl rfl (Fw.yV (Fw.val_fieldAddr fl29_1 rfl rfl)) rfl ?_
  refine Fw.hTk 5 rfl rfl (Fw.yV (Fw.val_load sc3 rfl (fun _ h_ => h_.2.2.cell 1))) rfl ?_
  refine Fw.hTk 6 rfl rfl (Fw.yV (Fw.val_move rfl)) rfl ?_
  refine Fw.hTk 7 rfl rfl (Fw.yV (Fw.val_nil rfl)) rfl ?_
  refine Fw.hTk 8 rfl rfl (Fw.yV (Fw.val_fieldAddr fl107_2 rfl rfl)) rfl ?_
  refine Fw.hTk 9 rfl rfl (Fw.yV (Fw.val_load sc105 rfl (fun _ h_ => h_.2.1.cell 2))) rfl ?_
  refine Fw.hTk 10 rfl rfl (Fw.yV (Fw.val_fieldAddr fl29_1 rfl rfl)) rfl ?_
  refine Fw.hTk 11 rfl rfl (Fw.yV (Fw.val_load sc3 rfl (fun _ h_ => h_.2.2.cell 1))) rfl ?_
  have HC2 := Rg.own_cellR (r := (fun j => if j = 0 + E[k].f then Value.slice A38 ((Rg.cont E N k) (0 + E[k].f) ++ [k]).length c38 else r j)) (off := N) HI _ hke.2
  refine Fw.hTk 12 rfl rfl (Fw.yV (Fw.val_indexR Try.underlying105 sz47 rfl rfl rfl rfl hke.2 (by rw [Fw.add_flat, Nat.zero_add, Nat.mul_one]))) rfl ?_
  refine Fw.hTk 14 rfl rfl (Fw.yV (Fw.val_move rfl)) rfl ?_
  refine Fw.hAll2 13 15 (by kernel_rfl) ?_ ?_
  refine Fw.hOp 13 rfl ?_
  refine Fw.ld sc47 rfl (HC2) rfl ?_
  refine Fw.hNext ⟨HS, Hn, He⟩ ?_
  refine Fw.hAll1 15 (by kernel_rfl) ?_
  refine Fw.hOp 15 rfl ?_
  refine Fw.buildSlice [_] sl47 rfl rfl (by exact Fw.allSz rfl) (by decide) rfl ?_
  intro w20 gS55 egS55 HS55 hb
  have rgS55 : w18.heap.size ≤ gS55 := by have := HS.size; omega
  have n_gn_gS55 : gn < gS55 := by have := Hn.lt; omega
  have n_ge_gS55 : ge < gS55 := by have := He.lt; omega
  have lgS55 : w.heap.size ≤ gS55 := by have := HB.size; omega
  replace Hn := Hn.low hb
  replace HO := own_below HO hb (Nat.le_refl _)
  replace HI := own_below HI hb (Nat.le_refl _)
  replace HR := HR.low hb
  replace He := He.low hb
  replace HS := HS.trans (hb.mono (Nat.le_trans hBr HS.size))
  replace HC2 := (hb.cell (World.block_lt_of_cell? _ _ HC2)).trans HC2
  replace HB := HB.trans (hb.mono HB.size)
  clear hb
  clear egS55
  refine Fw.hNext ⟨HS, Hn, He⟩ ?_
  refine Fw.hAll1 16 (by kernel_rfl) ?_
  refine Fw.hOp 16 rfl ?_
  have hlc : ((Rg.c2 E N k hkl2) (N + E[k].t)).length ≤ E.length := Rg.c2_len hkl2 hke.1
  refine Fw.append ((Rg.c2 E N k hkl2) (N + E[k].t) ++ [k]).length (Rg.ints ((Rg.c2 E N k hkl2) (N + E[k].t) ++ [k])) sl47 rfl rfl (HR.own (N + E[k].t) (by omega)) (Rg.one_nat HS55) rfl (Fw.oneCellsL rfl) (by unfold maxLen; omega) HB.size (by simp) (Rg.ints_app _ _) rfl ?_
  intro A56 c56 w21 N_ hbb hc hrow
  replace HS := HS.trans hbb
  replace HB := HB.trans hbb
  replace Hn := Hn.chg hc (fun e => own_ne_blk (HR.own (N + E[k].t) (by omega)) Hn (by decide) e.symm)
  replace He := He.chg hc (fun e => own_ne_blk (HR.own (N + E[k].t) (by omega)) He (by decide) e.symm)
  obtain ⟨_, HObk, _⟩ := Fw.own_at HO
  obtain ⟨_, HIbk, _⟩ := Fw.own_at HI
  replace HO := own_to HO hc (fun g_ h_ e_ => own_ne_blk (HR.own (N + E[k].t) (by omega)) HObk (by decide) (by rw [← e_]; injection h_ with h_; exact congrArg some h_.symm))
  replace HI := own_to HI hc (fun g_ h_ e_ => own_ne_blk (HR.own (N + E[k].t) (by omega)) HIbk (by decide) (by rw [← e_]; injection h_ with h_; exact congrArg some h_.symm))
  replace HR := HR.app (i := (N + E[k].t)) (by omega) hc rfl N_ hrow
  replace HR : Rg.Rws w21 w.heap.size (2 * N) (fun j => if j = N + E[k].t then Value.slice A56 ((Rg.c2 E N k hkl2) (N + E[k].t) ++ [k]).length c56 else (fun j => if j = 0 + E[k].f then Value.slice A38 ((Rg.cont E N k) (0 + E[k].f) ++ [k]).length c38 else r j) j) (Rg.cont E N (k + 1)) := HR.ext (Rg.cont_step hkl2 hke.1 hke.2)
  clear hbb hc hrow N_ HObk HIbk HS55 hlc
  clear HC2
  refine Fw.hNext ⟨HS, Hn, He⟩ ?_
  have EW24 := True.intro
  refine Fw.hTk 17 rfl rfl (Fw.yV (Fw.val_indexR Try.underlying105 sz47 rfl rfl rfl rfl hke.2 (by rw [Fw.add_flat, Nat.zero_add, Nat.mul_one]))) rfl ?_
  refine Fw.hAll1 18 (by kernel_rfl) ?_
  refine Fw.hOp 18 rfl ?_
  refine Fw.storeR sz47 rfl rfl HI (by simpa using hke.2) rfl rfl ?_
  intro w22 N_ hc
  replace Hn := Hn.chg hc (by omega)
  replace HO := own_to HO hc (fun g_ h_ e_ => by injection h_ with h_; have h_ : gO = g_ := h_; have e_ : g_ = gI := e_; omega)
  replace HR := HR.chgO hc HI (by decide)
  replace He := He.chg hc (by omega)
  replace HS := HS.trans (hc.below (fun k e => by omega) (Nat.le_trans hBr HS.size))
  replace HB := HB.trans (hc.below (B := w.heap.size) (fun k e => by omega) HB.size)
  clear hc
  clear HI EW24
  have HI := N_
  clear N_
  replace HI : World.ownsRow w22 w.heap.size 47 1 (.slice (some ⟨gI, 0, none⟩) N N) N ((List.range N).map fun i => (fun j => if j = N + E[k].t then Value.slice A56 ((Rg.c2 E N k hkl2) (N + E[k].t) ++ [k]).length c56 else (fun j => if j = 0 + E[k].f then Value.slice A38 ((Rg.cont E N k) (0 + E[k].f) ++ [k]).length c38 else r j) j) (N + i)) := Rg.own_set (fun j => if j = 0 + E[k].f then Value.slice A38 ((Rg.cont E N k) (0 + E[k].f) ++ [k]).length c38 else r j) N HI hke.2
  replace HO : World.ownsRow w22 w.heap.size 47 1 (.slice (some ⟨gO, 0, none⟩) N N) N ((List.range N).map fun i => (fun j => if j = N + E[k].t then Value.slice A56 ((Rg.c2 E N k hkl2) (N + E[k].t) ++ [k]).length c56 else (fun j => if j = 0 + E[k].f then Value.slice A38 ((Rg.cont E N k) (0 + E[k].f) ++ [k]).length c38 else r j) j) (0 + i)) := Rg.own_oth (fun j => if j = 0 + E[k].f then Value.slice A38 ((Rg.cont E N k) (0 + E[k].f) ++ [k]).length c38 else r j) 0 _ HO (fun j hj => by omega)
  refine Fw.hNext ⟨HS, Hn, He⟩ ?_
  refine Fw.hDone (by kernel_rfl) ?_
  refine Fw.X_blockN ?_
  refine hK9 _ _ (Fw.FC.sub (f' := [(17, _), (16, _), (15, _), (5, _)]) (.cons rfl (.cons rfl (.cons rfl (.cons rfl .nil)))) ?_)
  refine Fw.region ?_
  refine Fw.s (Fw.val_bin rfl rfl (Fw.b_add (Fw.i64_ok (by omega)))) rfl ?_
  refine Fw.s (Fw.val_move rfl) rfl ?_
  refine Fw.nil ?_
  refine Fw.roundEnd _ _ (by omega) ⟨k + 1, (fun j => if j = N + E[k].t then Value.slice A56 ((Rg.c2 E N k hkl2) (N + E[k].t) ++ [k]).length c56 else (fun j => if j = 0 + E[k].f then Value.slice A38 ((Rg.cont E N k) (0 + E[k].f) ++ [k]).length c38 else r j) j), rfl, by omega, Hn, HO, HI, HR, HB, rfl⟩ (.cons rfl (.cons rfl (.cons rfl (.cons rfl .nil))))
  refine Fw.hOp 15 rfl ?_
  refine Fw.buildSlice [_] sl47 rfl rfl (by exact Fw.allSz rfl) (by decide) rfl ?_
  intro w23 gS55 egS55 HS55 hb
  have rgS55 : w18.heap.size ≤ gS55 := by have := HS.size; omega
  have n_gn_gS55 : gn < gS55 := by have := Hn.lt; omega
  have n_ge_gS55 : ge < gS55 := by have := He.lt; omega
  have lgS55 : w.heap.size ≤ gS55 := by have := HB.size; omega
  replace Hn := Hn.low hb
  replace HO := own_below HO hb (Nat.le_refl _)
  replace HI := own_below HI hb (Nat.le_refl _)
  replace HR := HR.low hb
  replace He := He.low hb
  replace HS := HS.trans (hb.mono (Nat.le_trans hBr HS.size))
  replace HC2 := (hb.cell (World.block_lt_of_cell? _ _ HC2)).trans HC2
  replace HB := HB.trans (hb.mono HB.size)
  clear hb
  clear egS55
  refine Fw.hNext ⟨HS, Hn, He⟩ ?_
  refine Fw.hAll1 13 (by kernel_rfl) ?_
  refine Fw.hOp 13 rfl ?_
  refine Fw.ld sc47 rfl (HC2) rfl ?_
  refine Fw.hNext ⟨HS, Hn, He⟩ ?_
  refine Fw.hAll1 16 (by kernel_rfl) ?_
  refine Fw.hOp 16 rfl ?_
  have hlc : ((Rg.c2 E N k hkl2) (N + E[k].t)).length ≤ E.length := Rg.c2_len hkl2 hke.1
  refine Fw.append ((Rg.c2 E N k hkl2) (N + E[k].t) ++ [k]).length (Rg.ints ((Rg.c2 E N k hkl2) (N + E[k].t) ++ [k])) sl47 rfl rfl (HR.own (N + E[k].t) (by omega)) (Rg.one_nat HS55) rfl (Fw.oneCellsL rfl) (by unfold maxLen; omega) HB.size (by simp) (Rg.ints_app _ _) rfl ?_
  intro A56 c56 w24 N_ hbb hc hrow
  replace HS := HS.trans hbb
  replace HB := HB.trans hbb
  replace Hn := Hn.chg hc (fun e => own_ne_blk (HR.own (N + E[k].t) (by omega)) Hn (by decide) e.symm)
  replace He := He.chg hc (fun e => own_ne_blk (HR.own (N + E[k].t) (by omega)) He (by decide) e.symm)
  obtain ⟨_, HObk, _⟩ := Fw.own_at HO
  obtain ⟨_, HIbk, _⟩ := Fw.own_at HI
  replace HO := own_to HO hc (fun g_ h_ e_ => own_ne_blk (HR.own (N + E[k].t) (by omega)) HObk (by decide) (by rw [← e_]; injection h_ with h_; exact congrArg some h_.symm))
  replace HI := own_to HI hc (fun g_ h_ e_ => own_ne_blk (HR.own (N + E[k].t) (by omega)) HIbk (by decide) (by rw [← e_]; injection h_ with h_; exact congrArg some h_.symm))
  replace HR := HR.app (i := (N + E[k].t)) (by omega) hc rfl N_ hrow
  replace HR : Rg.Rws w24 w.heap.size (2 * N) (fun j => if j = N + E[k].t then Value.slice A56 ((Rg.c2 E N k hkl2) (N + E[k].t) ++ [k]).length c56 else (fun j => if j = 0 + E[k].f then Value.slice A38 ((Rg.cont E N k) (0 + E[k].f) ++ [k]).length c38 else r j) j) (Rg.cont E N (k + 1)) := HR.ext (Rg.cont_step hkl2 hke.1 hke.2)
  clear hbb hc hrow N_ HObk HIbk HS55 hlc
  clear HC2
  refine Fw.hNext ⟨HS, Hn, He⟩ ?_
  have EW26 := True.intro
  refine Fw.hTk 17 rfl rfl (Fw.yV (Fw.val_indexR Try.underlying105 sz47 rfl rfl rfl rfl hke.2 (by rw [Fw.add_flat, Nat.zero_add, Nat.mul_one]))) rfl ?_
  refine Fw.hAll1 18 (by kernel_rfl) ?_
  refine Fw.hOp 18 rfl ?_
  refine Fw.storeR sz47 rfl rfl HI (by simpa using hke.2) rfl rfl ?_
  intro w25 N_ hc
  replace Hn := Hn.chg hc (by omega)
  replace HO := own_to HO hc (fun g_ h_ e_ => by injection h_ with h_; have h_ : gO = g_ := h_; have e_ : g_ = gI := e_; omega)
  replace HR := HR.chgO hc HI (by decide)
  replace He := He.chg hc (by omega)
  replace HS := HS.trans (hc.below (fun k e => by omega) (Nat.le_trans hBr HS.size))
  replace HB := HB.trans (hc.below (B := w.heap.size) (fun k e => by omega) HB.size)
  clear hc
  clear HI EW26
  have HI := N_
  clear N_
  replace HI : World.ownsRow w25 w.heap.size 47 1 (.slice (some ⟨gI, 0, none⟩) N N) N ((List.range N).map fun i => (fun j => if j = N + E[k].t then Value.slice A56 ((Rg.c2 E N k hkl2) (N + E[k].t) ++ [k]).length c56 else (fun j => if j = 0 + E[k].f then Value.slice A38 ((Rg.cont E N k) (0 + E[k].f) ++ [k]).length c38 else r j) j) (N + i)) := Rg.own_set (fun j => if j = 0 + E[k].f then Value.slice A38 ((Rg.cont E N k) (0 + E[k].f) ++ [k]).length c38 else r j) N HI hke.2
  replace HO : World.ownsRow w25 w.heap.size 47 1 (.slice (some ⟨gO, 0, none⟩) N N) N ((List.range N).map fun i => (fun j => if j = N + E[k].t then Value.slice A56 ((Rg.c2 E N k hkl2) (N + E[k].t) ++ [k]).length c56 else (fun j => if j = 0 + E[k].f then Value.slice A38 ((Rg.cont E N k) (0 + E[k].f) ++ [k]).length c38 else r j) j) (0 + i)) := Rg.own_oth (fun j => if j = 0 + E[k].f then Value.slice A38 ((Rg.cont E N k) (0 + E[k].f) ++ [k]).length c38 else r j) 0 _ HO (fun j hj => by omega)
  refine Fw.hNext ⟨HS, Hn, He⟩ ?_
  refine Fw.hDone (by kernel_rfl) ?_
  refine Fw.X_blockN ?_
  refine hK9 _ _ (Fw.FC.sub (f' := [(17, _), (16, _), (15, _), (5, _)]) (.cons rfl (.cons rfl (.cons rfl (.cons rfl .nil)))) ?_)
  refine Fw.region ?_
  refine Fw.s (Fw.val_bin rfl rfl (Fw.b_add (Fw.i64_ok (by omega)))) rfl ?_
  refine Fw.s (Fw.val_move rfl) rfl ?_
  refine Fw.nil ?_
  refine Fw.roundEnd _ _ (by omega) ⟨k + 1, (fun j => if j = N + E[k].t then Value.slice A56 ((Rg.c2 E N k hkl2) (N + E[k].t) ++ [k]).length c56 else (fun j => if j = 0 + E[k].f then Value.slice A38 ((Rg.cont E N k) (0 + E[k].f) ++ [k]).length c38 else r j) j), rfl, by omega, Hn, HO, HI, HR, HB, rfl⟩ (.cons rfl (.cons rfl (.cons rfl (.cons rfl .nil))))
  rintro hlt
  refine Fw.nil ?_
  refine hK6 _ _ ?_
  refine Fw.seq fun _ hK28 => ?_
  refine Fw.condF rfl ?_
  refine Fw.exit ?_
  refine Fw.X_exit ?_
  refine Fw.X_exit ?_
  refine Fw.X_block ?_
  refine hK3 _ _ ?_
  refine Fw.seq fun _ hK29 => ?_
  refine Fw.region ?_
  refine Fw.s (Fw.val_move rfl) rfl ?_
  refine Fw.s (Fw.val_assign rfl) rfl ?_
  refine Fw.nil ?_
  refine hK29 _ _ ?_
  refine Fw.ret ?_
  refine Fw.ret_ [.tmp 4] [_] Try.results26 (.tmp rfl .nil) ?_
  obtain rfl : k = E.length := by omega
  refine ⟨gn, rfl, ⟨Ae, ce, some ⟨gO, 0, none⟩, N, some ⟨gI, 0, none⟩, N, _, _, ⟨Hn, hET.low HB, Rg.tab_of HR (by omega) (fun v hv => ?_) HO, Rg.tab_of HR (by omega) (fun v hv => ?_) HI⟩⟩, hl3.1, HB⟩
  rw [Nat.zero_add, Rg.cont_out hv, List.take_length]
  rw [Rg.cont_in, List.take_length]
  refine Fw.regionH (by kernel_rfl) ?_
  have R_HB := HB
  intro w26 hb
  have HS := hb
  replace HB := HB.trans (hb.mono HB.size)
  clear hb
  refine Fw.hTk 0 rfl rfl (Fw.yV (Fw.val_move rfl)) rfl ?_
  refine Fw.hTk 1 rfl rfl (Fw.yV (Fw.val_move rfl)) rfl ?_
  refine Fw.hTk 3 rfl rfl (Fw.yV (Fw.val_move rfl)) rfl ?_
  refine Fw.hAll2 2 4 (by kernel_rfl) ?_ ?_
  refine Fw.hOp 2 rfl ?_
  refine Fw.makeG N sl105 zi47 rfl rfl rfl rfl (by omega) (by unfold maxLen; omega) HB.size rfl ?_
  intro w27 gO egO HO hb
  have rgO : w.heap.size ≤ gO := by have := HS.size; omega
  rw [Fw.made (cells := fun (x : Value) => [x]) (m := 1) (Value.slice none 0 0) (Value.cells (.slice none 0 0)) rfl rfl] at HO
  have lgO : w.heap.size ≤ gO := by have := HB.size; omega
  replace HS := HS.trans (hb.mono HS.size)
  replace HB := HB.trans (hb.mono HB.size)
  clear hb
  clear egO
  replace HO := Rg.rep_range (off := 0) HO
  refine Fw.hNext HS ?_
  refine Fw.hAll1 4 (by kernel_rfl) ?_
  refine Fw.hOp 4 rfl ?_
  refine Fw.makeG N sl105 zi47 rfl rfl rfl rfl (by omega) (by unfold maxLen; omega) HB.size rfl ?_
  intro w28 gI egI HI hb
  have n_gOI : gO ≠ gI := by have := (HO.lt gO rfl).2; omega
  have rgI : w.heap.size ≤ gI := by have := HS.size; omega
  rw [Fw.made (cells := fun (x : Value) => [x]) (m := 1) (Value.slice none 0 0) (Value.cells (.slice none 0 0)) rfl rfl] at HI
  have lgI : w.heap.size ≤ gI := by have := HB.size; omega
  replace HS := HS.trans (hb.mono HS.size)
  replace HO := own_below HO hb (Nat.le_refl _)
  replace HB := HB.trans (hb.mono HB.size)
  clear hb
  clear egI
  replace HI := Rg.rep_range (off := N) HI
  refine Fw.hNext HS ?_
  refine Fw.hTk 5 rfl rfl (Fw.yV (Fw.val_build (ps := [(0, _), (1, _), (2, _)]) rfl (bu107_0_1_2 _ _ _ _ _ _ _ _ _))) rfl ?_
  refine Fw.hAll1 6 (by kernel_rfl) ?_
  refine Fw.hOp 6 rfl ?_
  refine Fw.box rfl rfl ?_
  intro w29 gn egn Hn hb
  have n_gnO : gn ≠ gO := by have := (HO.lt gO rfl).2; omega
  have n_gnI : gn ≠ gI := by have := (HI.lt gI rfl).2; omega
  have rgn : w.heap.size ≤ gn := by have := HS.size; omega
  have lgn : w.heap.size ≤ gn := by have := HB.size; omega
  replace HS := HS.trans (hb.mono HS.size)
  replace HO := own_below HO hb (Nat.le_refl _)
  replace HI := own_below HI hb (Nat.le_refl _)
  replace HB := HB.trans (hb.mono HB.size)
  clear hb
  clear egn
  refine Fw.hNext HS ?_
  refine Fw.hTk 7 rfl rfl (Fw.yV (Fw.val_assign rfl)) rfl ?_
  refine Fw.hDone (by kernel_rfl) ?_
  exact hK2 _ _ ⟨gn, gO, gI⟩ ⟨Hn, HO, HI, ⟨lgn, lgO, lgI⟩, ⟨n_gOI, n_gnO, n_gnI⟩, HB⟩ (.cons rfl (.cons rfl (.cons rfl .nil)))
  refine Fw.hOp 4 rfl ?_
  refine Fw.makeG N sl105 zi47 rfl rfl rfl rfl (by omega) (by unfold maxLen; omega) HB.size rfl ?_
  intro w30 gI egI HI hb
  have rgI : w.heap.size ≤ gI := by have := HS.size; omega
  rw [Fw.made (cells := fun (x : Value) => [x]) (m := 1) (Value.slice none 0 0) (Value.cells (.slice none 0 0)) rfl rfl] at HI
  have lgI : w.heap.size ≤ gI := by have := HB.size; omega
  replace HS := HS.trans (hb.mono HS.size)
  replace HB := HB.trans (hb.mono HB.size)
  clear hb
  clear egI
  replace HI := Rg.rep_range (off := N) HI
  refine Fw.hNext HS ?_
  refine Fw.hAll1 2 (by kernel_rfl) ?_
  refine Fw.hOp 2 rfl ?_
  refine Fw.makeG N sl105 zi47 rfl rfl rfl rfl (by omega) (by unfold maxLen; omega) HB.size rfl ?_
  intro w31 gO egO HO hb
  have n_gOI : gO ≠ gI := by have := (HI.lt gI rfl).2; omega
  have rgO : w.heap.size ≤ gO := by have := HS.size; omega
  rw [Fw.made (cells := fun (x : Value) => [x]) (m := 1) (Value.slice none 0 0) (Value.cells (.slice none 0 0)) rfl rfl] at HO
  have lgO : w.heap.size ≤ gO := by have := HB.size; omega
  replace HS := HS.trans (hb.mono HS.size)
  replace HI := own_below HI hb (Nat.le_refl _)
  replace HB := HB.trans (hb.mono HB.size)
  clear hb
  clear egO
  replace HO := Rg.rep_range (off := 0) HO
  refine Fw.hNext HS ?_
  refine Fw.hTk 5 rfl rfl (Fw.yV (Fw.val_build (ps := [(0, _), (1, _), (2, _)]) rfl (bu107_0_1_2 _ _ _ _ _ _ _ _ _))) rfl ?_
  refine Fw.hAll1 6 (by kernel_rfl) ?_
  refine Fw.hOp 6 rfl ?_
  refine Fw.box rfl rfl ?_
  intro w32 gn egn Hn hb
  have n_gnO : gn ≠ gO := by have := (HO.lt gO rfl).2; omega
  have n_gnI : gn ≠ gI := by have := (HI.lt gI rfl).2; omega
  have rgn : w.heap.size ≤ gn := by have := HS.size; omega
  have lgn : w.heap.size ≤ gn := by have := HB.size; omega
  replace HS := HS.trans (hb.mono HS.size)
  replace HI := own_below HI hb (Nat.le_refl _)
  replace HO := own_below HO hb (Nat.le_refl _)
  replace HB := HB.trans (hb.mono HB.size)
  clear hb
  clear egn
  refine Fw.hNext HS ?_
  refine Fw.hTk 7 rfl rfl (Fw.yV (Fw.val_assign rfl)) rfl ?_
  refine Fw.hDone (by kernel_rfl) ?_
  exact hK2 _ _ ⟨gn, gO, gI⟩ ⟨Hn, HO, HI, ⟨lgn, lgO, lgI⟩, ⟨n_gOI, n_gnO, n_gnI⟩, HB⟩ (.cons rfl (.cons rfl (.cons rfl .nil)))

end Go.Proofs.Ytodhpooddmeghaa
