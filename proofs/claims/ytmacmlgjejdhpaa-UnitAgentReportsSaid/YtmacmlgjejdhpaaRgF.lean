/- Layer 9: copies, the reversed graph, Right, PathTime, Check. -/
import Derived.Test.YtmacmlgjejdhpaaRgE
import Derived.Lib.SliceRun
namespace Go.Proofs.Ytmacmlgjejdhpaa
set_option linter.unusedSimpArgs false
set_option linter.unusedVariables false
open Go.RowKit

namespace Fw
theorem b_nilS {P : Program} {t e : TypeId} {x y : Operand} {A : Option Addr} {n c n' c' : Nat} (h : P.underlying t = some (.slice e)) : Bin P .eql t x y (.slice A n c) (.slice none n' c') (.bool A.isNone) := fun w => by
  have g : (eqGuard .eql t x y (.slice A n c) (.slice none n' c')).run P w = .ok () w := rfl
  rw [Sem.run_bind, g]; simp only [Result.andThen_ok]; exact Lib.run_eql_slice_nil w _ _ A n c n' c' h
end Fw
namespace Rg
theorem one_ints {k : IntKind} (l : List Int) : ∀ u ∈ l.map (Value.int k), u.oneCell' = true := fun u hu => by
  obtain ⟨x, _, rfl⟩ := List.mem_map.1 hu; rfl
theorem one_eds (E : List Ed) : ∀ u ∈ E.flatMap Ed.cells, u.oneCell' = true := fun u hu => by
  obtain ⟨e, _, hu⟩ := List.mem_flatMap.1 hu
  simp [Ed.cells] at hu
  rcases hu with rfl | rfl | rfl <;> rfl
structure Re where
  f : Int
  t : Int
  m : Int
def Re.cells (e : Re) : List Value := [.int .i64 e.f, .int .i64 e.t, .int .i64 e.m]
theorem Re.len : ∀ e : Re, e.cells.length = 3 := fun _ => rfl
theorem one_res (E : List Re) : ∀ u ∈ E.flatMap Re.cells, u.oneCell' = true := fun u hu => by
  obtain ⟨e, _, hu⟩ := List.mem_flatMap.1 hu
  simp [Re.cells] at hu
  rcases hu with rfl | rfl | rfl <;> rfl
theorem flat3 {T : Type} {cells : T → List Value} (h : ∀ e, (cells e).length = 3) (E : List T) : (E.flatMap cells).length = E.length * 3 := Fw.flat_len h E
def Ed.swap (e : Ed) : Ed := ⟨e.t, e.f, e.m⟩
theorem swap_step {E : List Ed} {k : Nat} (h : k < E.length) : ((E.take k).map Ed.swap).flatMap Ed.cells ++ Ed.cells (Ed.swap E[k]) = ((E.take (k + 1)).map Ed.swap).flatMap Ed.cells := by
  rw [List.take_succ_eq_append_getElem h, List.map_append, List.flatMap_append]; simp
theorem swap_ok {N : Nat} {E : List Ed} (h : EOk N E) : EOk N (E.map Ed.swap) := fun e he => by
  obtain ⟨x, hx, rfl⟩ := List.mem_map.1 he
  exact ⟨(h x hx).2, (h x hx).1⟩
theorem arcs_swap (N : Nat) (E : List Ed) (ws : List Int) : arcs N (E.map Ed.swap) ws true = arcs N E ws false := by
  unfold arcs
  congr 1
  simp
  funext i; rw [List.getElem?_map]; cases E[i]? <;> rfl
  funext i; rw [List.getElem?_map]; cases E[i]? <;> rfl
theorem arcT_swap (N : Nat) (E : List Ed) (ts : List Int) : arcT N (E.map Ed.swap) ts true = arcT N E ts false := by
  unfold arcT; rw [arcs_swap, List.length_map]
/-- a graph of the reference is right -/
def reOk (N : Int) (e : Re) : Prop := (0 ≤ e.f ∧ e.f < N) ∧ (0 ≤ e.t ∧ e.t < N) ∧ 1 ≤ e.m ∧ (e.m ≤ 1048576 ∨ e.m = 4611686018427387904)
instance (N : Int) (e : Re) : Decidable (reOk N e) := by unfold reOk; infer_instance
def Right (N : Int) (R : List Re) : Prop := (1 ≤ N ∧ N ≤ 12) ∧ R.length ≤ 40 ∧ ∀ e ∈ R, reOk N e
instance (N : Int) (R : List Re) : Decidable (Right N R) := by unfold Right; infer_instance
theorem reOk_take {N : Int} {R : List Re} {k : Nat} (hk : k < R.length) (h : ∀ e ∈ R.take k, reOk N e) (h' : reOk N R[k]) : ∀ e ∈ R.take (k + 1), reOk N e := by
  rw [List.take_succ_eq_append_getElem hk]
  intro e he
  rcases List.mem_append.1 he with he | he
  exact h e he
  rw [List.mem_singleton.1 he]; exact h'
/-- a way, edge by edge -/
def edZ (E : List Ed) (i : Int) : Ed := if 0 ≤ i then (E[i.toNat]?).getD ⟨0, 0, 0⟩ else ⟨0, 0, 0⟩
theorem edZ_at {E : List Ed} {i : Int} {u : Nat} (h : i = u) (hu : u < E.length) : edZ E i = E[u] := by
  subst h; unfold edZ; rw [if_pos (by omega)]; simp [hu]
theorem edZ_no {E : List Ed} {i : Int} (h : ¬ (0 ≤ i ∧ i < E.length)) : edZ E i = ⟨0, 0, 0⟩ := by
  unfold edZ; split
  rw [List.getElem?_eq_none (by omega)]; rfl
  rfl
def edgesOk (M : Nat) (way : List Int) : Prop := ∀ i ∈ way, 0 ≤ i ∧ i < M
instance (M : Nat) (way : List Int) : Decidable (edgesOk M way) := by unfold edgesOk; infer_instance
theorem edgesOk_take {M : Nat} {l : List Int} {k : Nat} (hk : k < l.length) (h : edgesOk M (l.take k)) (h' : 0 ≤ l[k] ∧ l[k] < M) : edgesOk M (l.take (k + 1)) := by
  rw [take_succ' hk]
  intro e he
  rcases List.mem_append.1 he with he | he
  exact h e he
  rw [List.mem_singleton.1 he]; exact h'
def follow (E : List Ed) : Int → List Int → Option Int
  | v, [] => some v
  | v, i :: l => if ((edZ E i).f : Int) = v then follow E (edZ E i).t l else none
theorem follow_app (E : List Ed) : ∀ (a b : List Int) (v : Int), follow E v (a ++ b) = (follow E v a).bind fun u => follow E u b
  | [], b, v => rfl
  | i :: a, b, v => by
    show (if _ then _ else _) = (if _ then _ else _ : Option Int).bind _
    split
    exact follow_app E a b _
    rfl
theorem follow_step {E : List Ed} {l : List Int} {k : Nat} {v u : Int} (hk : k < l.length) (h : follow E v (l.take k) = some u) : follow E v (l.take (k + 1)) = if ((edZ E l[k]).f : Int) = u then some ((edZ E l[k]).t : Int) else none := by
  rw [take_succ' hk, follow_app, h]; rfl
theorem follow_no {E : List Ed} {l : List Int} {k : Nat} {v : Int} (h : follow E v (l.take k) = none) : follow E v l = none := by
  rw [← List.take_append_drop k l, follow_app, h]; rfl
def total (ts : List Int) : List Int → Option Int
  | [] => some 0
  | i :: l => if tt ts i.toNat = 4611686018427387904 then none else (total ts l).map fun s => tt ts i.toNat + s
theorem total_app (ts : List Int) : ∀ (a b : List Int), total ts (a ++ b) = (total ts a).bind fun s => (total ts b).map fun r => s + r
  | [], b => by show total ts b = (total ts b).map fun r => 0 + r; cases total ts b <;> simp
  | i :: a, b => by
    show (if _ then _ else _) = (if _ then _ else _ : Option Int).bind _
    split
    rfl
    show (total ts (a ++ b)).map _ = _
    rw [total_app ts a b]
    cases total ts a <;> cases total ts b <;> simp [Int.add_assoc]
theorem total_step {ts l : List Int} {k : Nat} {s : Int} (hk : k < l.length) (h : total ts (l.take k) = some s) : total ts (l.take (k + 1)) = if tt ts l[k].toNat = 4611686018427387904 then none else some (s + tt ts l[k].toNat) := by
  rw [take_succ' hk, total_app, h]
  show (Option.map (fun r => s + r) (if tt ts l[k].toNat = 4611686018427387904 then none else (some 0).map fun s => tt ts l[k].toNat + s)) = _
  split
  rfl
  show some (s + (tt ts l[k].toNat + 0)) = _; rw [Int.add_zero]
theorem total_no {ts l : List Int} {k : Nat} (h : total ts (l.take k) = none) : total ts l = none := by
  rw [← List.take_append_drop k l, total_app, h]; rfl
/-- what PathTime answers -/
def ptime (N : Nat) (E : List Ed) (ts way : List Int) (a b : Int) : Int × Int :=
  if ¬ ((0 ≤ a ∧ a < N) ∧ (0 ≤ b ∧ b < N)) then (0, 1) else
  if ¬ edgesOk E.length way then (0, 1) else
  if follow E a way = some b then (match total ts way with | some s => (s, 0) | none => (0, 13)) else (0, 2)
section
variable {N : Nat} {E : List Ed} {ts way : List Int} {a b : Int}
theorem pt1 (h : ¬ ((0 ≤ a ∧ a < N) ∧ (0 ≤ b ∧ b < N))) : ptime N E ts way a b = (0, 1) := by unfold ptime; rw [if_pos h]
theorem pt2 (h : (0 ≤ a ∧ a < N) ∧ (0 ≤ b ∧ b < N)) (he : ¬ edgesOk E.length way) : ptime N E ts way a b = (0, 1) := by unfold ptime; rw [if_neg (fun hn => hn h), if_pos he]
theorem pt3 (h : (0 ≤ a ∧ a < N) ∧ (0 ≤ b ∧ b < N)) (he : edgesOk E.length way) (hf : ¬ follow E a way = some b) : ptime N E ts way a b = (0, 2) := by unfold ptime; rw [if_neg (fun hn => hn h), if_neg (fun hn => hn he), if_neg hf]
theorem pt4 (h : (0 ≤ a ∧ a < N) ∧ (0 ≤ b ∧ b < N)) (he : edgesOk E.length way) (hf : follow E a way = some b) (ht : total ts way = none) : ptime N E ts way a b = (0, 13) := by unfold ptime; rw [if_neg (fun hn => hn h), if_neg (fun hn => hn he), if_pos hf, ht]
theorem pt5 {s : Int} (h : (0 ≤ a ∧ a < N) ∧ (0 ≤ b ∧ b < N)) (he : edgesOk E.length way) (hf : follow E a way = some b) (ht : total ts way = some s) : ptime N E ts way a b = (s, 0) := by unfold ptime; rw [if_neg (fun hn => hn h), if_neg (fun hn => hn he), if_pos hf, ht]
end
end Rg
set_option maxRecDepth 100000 in
set_option maxHeartbeats 1000000 in
theorem clone_any (w : World) (A : Option Addr) (E : List Rg.Ed) (c : Nat) (h : Rd w A (E.flatMap Rg.Ed.cells)) (hl : E.length ≤ 65536) (hA : ∃ ad, A = some ad) : Calls Try.prog 44 #[.slice A E.length c] w fun e_ w' => ∃ A' c', e_ = .returned (.slice A' E.length c') ∧ w'.ownsRow w.heap.size 75 3 (.slice A' E.length c') E.length (E.flatMap Rg.Ed.cells) ∧ Below w.heap.size w w' := by
  obtain ⟨ad, rfl⟩ := hA
  refine Fw.calls Try.func44 rfl Try.ntmps44 rfl ?_
  have HB := Below.refl (w.heap.size) w
  refine Fw.seq fun _ hK1 => ?_
  refine Fw.region ?_
  refine Fw.s (Fw.val_assign rfl) rfl ?_
  refine Fw.nil ?_
  refine hK1 _ _ ?_
  refine Fw.seq fun _ hK2 => ?_
  refine Fw.seq fun _ hK3 => ?_
  refine Fw.region ?_
  refine Fw.s (Fw.val_move rfl) rfl ?_
  refine Fw.s (Fw.val_bin rfl rfl (Fw.b_nilS Try.underlying22)) rfl ?_
  refine Fw.nil ?_
  refine hK3 _ _ ?_
  refine Fw.condF rfl ?_
  refine Fw.skip ?_
  refine hK2 _ _ ?_
  refine Fw.seq fun _ hK4 => ?_
  refine Fw.region ?_
  refine Fw.buildSlice [] sl22 rfl rfl (by exact Fw.allSz rfl) (by decide) rfl ?_
  intro w1 gS5 egS5 HS5 hb
  have lgS5 : w.heap.size ≤ gS5 := by have := HB.size; omega
  replace HB := HB.trans (hb.mono HB.size)
  clear hb
  clear egS5
  refine Fw.s (Fw.val_move rfl) rfl ?_
  refine Fw.append (E.length) (E.flatMap Rg.Ed.cells) sl22 rfl rfl (Fw.own_blk HS5 lgS5 (by unfold maxLen; omega) rfl) (h.low HB) (Rg.flat3 Rg.Ed.len E) (Rg.one_eds E) (by unfold maxLen; omega) HB.size (Nat.zero_add _) rfl rfl ?_
  intro A7 c7 w2 N_ hbb hc hrow
  replace HB := HB.trans hbb
  clear hbb hc hrow HS5
  refine Fw.s (Fw.val_assign rfl) rfl ?_
  refine Fw.nil ?_
  refine hK4 _ _ (Fw.FC.sub (f' := [(2, _)]) (.cons rfl .nil) ?_)
  refine Fw.ret ?_
  refine Fw.ret_ [.tmp 2] [_] Try.results44 (.tmp rfl .nil) ?_
  exact ⟨A7, c7, rfl, N_, HB⟩

set_option maxRecDepth 100000 in
set_option maxHeartbeats 1000000 in
theorem back_any (w : World) (N : Nat) (E : List Rg.Ed) (Ae : Option Addr) (ce : Nat) (hE : Rd w Ae (E.flatMap Rg.Ed.cells)) (hEl : E.length ≤ 65536) : Calls Try.prog 77 #[.agg #[.int .i64 (N : Int), .slice Ae E.length ce]] w fun e_ w' => ∃ A' c', e_ = .returned (.agg #[.int .i64 (N : Int), .slice A' E.length c']) ∧ w'.ownsRow w.heap.size 75 3 (.slice A' E.length c') E.length ((E.map Rg.Ed.swap).flatMap Rg.Ed.cells) ∧ Below w.heap.size w w' := by
  refine Fw.calls Try.func77 rfl Try.ntmps77 rfl ?_
  have HB := Below.refl (w.heap.size) w
  refine Fw.seq fun _ hK1 => ?_
  refine Fw.region ?_
  refine Fw.box rfl rfl ?_
  intro w1 gn egn Hn hb
  have lgn : w.heap.size ≤ gn := by have := HB.size; omega
  replace HB := HB.trans (hb.mono HB.size)
  clear hb
  clear egn
  refine Fw.alloc ze24 rfl ?_
  intro w2 gr egr Hr hb
  have n_gn_gr : gn < gr := by have := Hn.lt; omega
  have lgr : w.heap.size ≤ gr := by have := HB.size; omega
  replace Hn := Hn.low hb
  replace HB := HB.trans (hb.mono HB.size)
  clear hb
  clear egr
  refine Fw.nil ?_
  refine hK1 _ _ ?_
  refine Fw.seq fun _ hK2 => ?_
  refine Fw.region ?_
  refine Fw.s (Fw.val_fieldAddr fl24_0 rfl rfl) rfl ?_
  refine Fw.ld sc3 rfl (Hn.cell 0) rfl ?_
  refine Fw.s (Fw.val_build (ps := [(0, _)]) rfl (bu24_0 _)) rfl ?_
  refine Fw.alloc ze24 rfl ?_
  intro w3 go ego Ho hb
  have n_gn_go : gn < go := by have := Hn.lt; omega
  have n_gr_go : gr < go := by have := Hr.lt; omega
  have lgo : w.heap.size ≤ go := by have := HB.size; omega
  replace Hn := Hn.low hb
  replace Hr := Hr.low hb
  replace HB := HB.trans (hb.mono HB.size)
  clear hb
  clear ego
  refine Fw.storeW sz24 rfl rfl Ho rfl rfl (by exact Fw.oneCells rfl) ?_
  intro w4 N_ hc
  replace Hn := Hn.chg hc (by omega)
  replace Hr := Hr.chg hc (by omega)
  replace HB := HB.trans (hc.below (B := w.heap.size) (fun k e => by omega) HB.size)
  clear hc
  clear Ho
  have Ho := N_
  clear N_
  refine Fw.nil ?_
  refine hK2 _ _ ?_
  refine Fw.seq fun _ hK3 => ?_
  refine Fw.seq fun _ hK4 => ?_
  refine Fw.region ?_
  refine Fw.s (Fw.val_assign rfl) rfl ?_
  refine Fw.nil ?_
  refine hK4 _ _ ?_
  refine Fw.block ?_
  have HN : w4.ownsRow w.heap.size 75 3 (.slice none 0 0) 0 (((E.take 0).map Rg.Ed.swap).flatMap Rg.Ed.cells) := ⟨rfl, .inl ⟨rfl, rfl⟩⟩
  refine Fw.loop (fun m_ f_ W_ => ∃ (k : Nat) (A_ : Option Addr) (c_ : Nat), m_ = E.length - k ∧ k ≤ E.length ∧ Blk W_ gn 24 #[.int .i64 (N : Int), .slice Ae E.length ce] ∧ Blk W_ gr 24 #[.int .i64 0, .slice none 0 0] ∧ Blk W_ go 24 #[.int .i64 (N : Int), .slice A_ k c_] ∧ World.ownsRow W_ w.heap.size 75 3 (.slice A_ k c_) k (((E.take k).map Rg.Ed.swap).flatMap Rg.Ed.cells) ∧ Below (w.heap.size) w W_ ∧ f_ = [(4, .int .i64 k), (3, .pointer (some ⟨go, 0, none⟩)), (2, .pointer (some ⟨gr, 0, none⟩)), (1, .pointer (some ⟨gn, 0, none⟩))]) ⟨_, _, ⟨0, none, 0, rfl, Nat.zero_le _, Hn, Hr, Ho, HN, HB, rfl⟩, (.cons rfl (.cons rfl (.cons rfl (.cons rfl .nil))))⟩ ?_
  clear Hn Hr Ho HN HB
  rintro m5_ _ w5 ⟨k, A_, c_, hm5_, hkl, Hn, Hr, Ho, HN, HB, rfl⟩
  refine Fw.seq fun _ hK6 => ?_
  refine Fw.seq fun _ hK7 => ?_
  refine Fw.region ?_
  refine Fw.s (Fw.val_move rfl) rfl ?_
  refine Fw.s (Fw.val_fieldAddr fl24_1 rfl rfl) rfl ?_
  refine Fw.ld sc22 rfl (Hn.cell 1) rfl ?_
  refine Fw.s (Fw.val_len Try.underlying22 rfl) rfl ?_
  refine Fw.s2 (Fw.val_bin rfl rfl Fw.b_lss) rfl ?_ ?_
  rintro hlt
  refine Fw.nil ?_
  refine hK7 _ _ ?_
  refine Fw.condT rfl ?_
  refine Fw.skip ?_
  refine hK6 _ _ ?_
  refine Fw.seq fun _ hK9 => ?_
  refine Fw.block ?_
  have hkl2 : k < E.length := by omega
  obtain ⟨ae, be_, oe_, hAe, hadde, HEe⟩ := Fw.rdAt Rg.Ed.len (by decide) hE k hkl2
  have hBr : w.heap.size ≤ w5.heap.size := HB.size
  refine Fw.regionHS (fun W_ => Below (w.heap.size) w5 W_ ∧ Blk W_ gn 24 #[.int .i64 (N : Int), .slice Ae E.length ce]) (by kernel_rfl) ⟨(Fw.drew_low w5).mono hBr, Hn.low (Fw.drew_low w5)⟩ ?_
  have R_Hn := Hn
  have R_Hr := Hr
  have R_Ho := Ho
  have R_HB := HB
  intro w6 hb HS
  replace HS := HS.1
  replace Hn := Hn.low hb
  replace Hr := Hr.low hb
  replace Ho := Ho.low hb
  replace HN := own_below HN hb (Nat.le_refl _)
  replace HB := HB.trans (hb.mono HB.size)
  clear hb
  refine Fw.hTk 0 rfl rfl (Fw.yV (Fw.val_fieldAddr fl24_1 rfl rfl)) rfl ?_
  refine Fw.hTk 2 rfl rfl (Fw.yV (Fw.val_fieldAddr fl24_1 rfl rfl)) rfl ?_
  refine Fw.hTk 3 rfl rfl (Fw.yV (Fw.val_load sc22 rfl (fun _ h_ => h_.2.cell 1))) rfl ?_
  refine Fw.hTk 4 rfl rfl (Fw.yV (Fw.val_move rfl)) rfl ?_
  refine Fw.hTk 5 rfl rfl (Fw.yV (Fw.val_indexR Try.underlying22 sz75 rfl hAe rfl rfl hkl2 hadde)) rfl ?_
  refine Fw.hTk 6 rfl rfl (Fw.yV (Fw.val_fieldAddr fl75_1 rfl rfl)) rfl ?_
  refine Fw.hTk 7 rfl rfl (Fw.yV (Fw.val_load sc3 rfl (fun _ h_ => Fw.rdCell (HEe.low (R_HB.trans h_.1)) 1 rfl))) rfl ?_
  refine Fw.hTk 8 rfl rfl (Fw.yV (Fw.val_fieldAddr fl24_1 rfl rfl)) rfl ?_
  refine Fw.hTk 9 rfl rfl (Fw.yV (Fw.val_load sc22 rfl (fun _ h_ => h_.2.cell 1))) rfl ?_
  refine Fw.hTk 10 rfl rfl (Fw.yV (Fw.val_move rfl)) rfl ?_
  refine Fw.hTk 11 rfl rfl (Fw.yV (Fw.val_indexR Try.underlying22 sz75 rfl hAe rfl rfl hkl2 hadde)) rfl ?_
  refine Fw.hTk 12 rfl rfl (Fw.yV (Fw.val_fieldAddr fl75_0 rfl rfl)) rfl ?_
  refine Fw.hTk 13 rfl rfl (Fw.yV (Fw.val_load sc3 rfl (fun _ h_ => Fw.rdCell (HEe.low (R_HB.trans h_.1)) 0 rfl))) rfl ?_
  refine Fw.hTk 14 rfl rfl (Fw.yV (Fw.val_fieldAddr fl24_1 rfl rfl)) rfl ?_
  refine Fw.hTk 15 rfl rfl (Fw.yV (Fw.val_load sc22 rfl (fun _ h_ => h_.2.cell 1))) rfl ?_
  refine Fw.hTk 16 rfl rfl (Fw.yV (Fw.val_move rfl)) rfl ?_
  refine Fw.hTk 17 rfl rfl (Fw.yV (Fw.val_indexR Try.underlying22 sz75 rfl hAe rfl rfl hkl2 hadde)) rfl ?_
  refine Fw.hTk 18 rfl rfl (Fw.yV (Fw.val_fieldAddr fl75_2 rfl rfl)) rfl ?_
  refine Fw.hTk 19 rfl rfl (Fw.yV (Fw.val_load sc2 rfl (fun _ h_ => Fw.rdCell (HEe.low (R_HB.trans h_.1)) 2 rfl))) rfl ?_
  refine Fw.hTk 20 rfl rfl (Fw.yV (Fw.val_build (ps := [(0, _), (1, _), (2, _)]) rfl (bu75_0_1_2 _ _ _))) rfl ?_
  refine Fw.hAll2 1 21 (by kernel_rfl) ?_ ?_
  refine Fw.hOp 1 rfl ?_
  refine Fw.ld sc22 rfl (Ho.cell 1) rfl ?_
  refine Fw.hNext ⟨HS, Hn⟩ ?_
  refine Fw.hAll1 21 (by kernel_rfl) ?_
  refine Fw.hOp 21 rfl ?_
  refine Fw.buildSlice [_] sl22 rfl rfl (by exact Fw.allSz rfl) (by decide) rfl ?_
  intro w7 gS36 egS36 HS36 hb
  have rgS36 : w5.heap.size ≤ gS36 := by have := HS.size; omega
  have n_gn_gS36 : gn < gS36 := by have := Hn.lt; omega
  have n_gr_gS36 : gr < gS36 := by have := Hr.lt; omega
  have n_go_gS36 : go < gS36 := by have := Ho.lt; omega
  have lgS36 : w.heap.size ≤ gS36 := by have := HB.size; omega
  replace Hn := Hn.low hb
  replace Hr := Hr.low hb
  replace Ho := Ho.low hb
  replace HN := own_below HN hb (Nat.le_refl _)
  replace HS := HS.trans (hb.mono (Nat.le_trans hBr HS.size))
  replace HB := HB.trans (hb.mono HB.size)
  clear hb
  clear egS36
  refine Fw.hNext ⟨HS, Hn⟩ ?_
  refine Fw.hAll1 22 (by kernel_rfl) ?_
  refine Fw.hOp 22 rfl ?_
  refine Fw.append (k + 1) (((E.take (k + 1)).map Rg.Ed.swap).flatMap Rg.Ed.cells) sl22 rfl rfl HN (show Rd _ _ (Rg.Ed.cells (Rg.Ed.swap E[k])) from Fw.rdBlk HS36) rfl (Fw.oneCellsL rfl) (by unfold maxLen; omega) HB.size rfl (Rg.swap_step hkl2) rfl ?_
  intro A37 c37 w8 N_ hbb hc hrow
  replace HS := HS.trans hbb
  replace HB := HB.trans hbb
  replace Hn := Hn.chg hc (fun e => own_ne_blk HN Hn (by decide) e.symm)
  replace Hr := Hr.chg hc (fun e => own_ne_blk HN Hr (by decide) e.symm)
  replace Ho := Ho.chg hc (fun e => own_ne_blk HN Ho (by decide) e.symm)
  clear hbb hc hrow HN HS36
  have HN := N_
  clear N_
  refine Fw.hNext ⟨HS, Hn⟩ ?_
  refine Fw.hTk 23 rfl rfl (Fw.yV (Fw.val_fieldAddr fl24_1 rfl rfl)) rfl ?_
  refine Fw.hAll1 24 (by kernel_rfl) ?_
  refine Fw.hOp 24 rfl ?_
  refine Fw.store sz22 rfl rfl Ho rfl rfl rfl ?_
  intro w9 N_ hc
  replace Hn := Hn.chg hc (by omega)
  replace Hr := Hr.chg hc (by omega)
  replace HN := own_to HN hc (fun g_ h_ e_ => own_ne HN Ho (by decide) (by rw [h_, e_]))
  replace HS := HS.trans (hc.below (fun k e => by omega) (Nat.le_trans hBr HS.size))
  replace HB := HB.trans (hc.below (B := w.heap.size) (fun k e => by omega) HB.size)
  clear hc
  clear Ho
  have Ho := N_
  clear N_
  refine Fw.hNext ⟨HS, Hn⟩ ?_
  refine Fw.hDone (by kernel_rfl) ?_
  refine Fw.X_blockN ?_
  refine hK9 _ _ (Fw.FC.sub (f' := [(4, _), (3, _), (2, _), (1, _)]) (.cons rfl (.cons rfl (.cons rfl (.cons rfl .nil)))) ?_)
  refine Fw.region ?_
  refine Fw.s (Fw.val_move rfl) rfl ?_
  refine Fw.s (Fw.val_bin rfl rfl (Fw.b_add (Fw.i64_ok (by omega)))) rfl ?_
  refine Fw.s (Fw.val_assign rfl) rfl ?_
  refine Fw.nil ?_
  refine Fw.roundEnd _ _ (by omega) ⟨k + 1, A37, c37, rfl, by omega, Hn, Hr, Ho, HN, HB, rfl⟩ (.cons rfl (.cons rfl (.cons rfl (.cons rfl .nil))))
  refine Fw.hOp 21 rfl ?_
  refine Fw.buildSlice [_] sl22 rfl rfl (by exact Fw.allSz rfl) (by decide) rfl ?_
  intro w10 gS36 egS36 HS36 hb
  have rgS36 : w5.heap.size ≤ gS36 := by have := HS.size; omega
  have n_gn_gS36 : gn < gS36 := by have := Hn.lt; omega
  have n_gr_gS36 : gr < gS36 := by have := Hr.lt; omega
  have n_go_gS36 : go < gS36 := by have := Ho.lt; omega
  have lgS36 : w.heap.size ≤ gS36 := by have := HB.size; omega
  replace Hn := Hn.low hb
  replace Hr := Hr.low hb
  replace Ho := Ho.low hb
  replace HN := own_below HN hb (Nat.le_refl _)
  replace HS := HS.trans (hb.mono (Nat.le_trans hBr HS.size))
  replace HB := HB.trans (hb.mono HB.size)
  clear hb
  clear egS36
  refine Fw.hNext ⟨HS, Hn⟩ ?_
  refine Fw.hAll1 1 (by kernel_rfl) ?_
  refine Fw.hOp 1 rfl ?_
  refine Fw.ld sc22 rfl (Ho.cell 1) rfl ?_
  refine Fw.hNext ⟨HS, Hn⟩ ?_
  refine Fw.hAll1 22 (by kernel_rfl) ?_
  refine Fw.hOp 22 rfl ?_
  refine Fw.append (k + 1) (((E.take (k + 1)).map Rg.Ed.swap).flatMap Rg.Ed.cells) sl22 rfl rfl HN (show Rd _ _ (Rg.Ed.cells (Rg.Ed.swap E[k])) from Fw.rdBlk HS36) rfl (Fw.oneCellsL rfl) (by unfold maxLen; omega) HB.size rfl (Rg.swap_step hkl2) rfl ?_
  intro A37 c37 w11 N_ hbb hc hrow
  replace HS := HS.trans hbb
  replace HB := HB.trans hbb
  replace Hn := Hn.chg hc (fun e => own_ne_blk HN Hn (by decide) e.symm)
  replace Hr := Hr.chg hc (fun e => own_ne_blk HN Hr (by decide) e.symm)
  replace Ho := Ho.chg hc (fun e => own_ne_blk HN Ho (by decide) e.symm)
  clear hbb hc hrow HN HS36
  have HN := N_
  clear N_
  refine Fw.hNext ⟨HS, Hn⟩ ?_
  refine Fw.hTk 23 rfl rfl (Fw.yV (Fw.val_fieldAddr fl24_1 rfl rfl)) rfl ?_
  refine Fw.hAll1 24 (by kernel_rfl) ?_
  refine Fw.hOp 24 rfl ?_
  refine Fw.store sz22 rfl rfl Ho rfl rfl rfl ?_
  intro w12 N_ hc
  replace Hn := Hn.chg hc (by omega)
  replace Hr := Hr.chg hc (by omega)
  replace HN := own_to HN hc (fun g_ h_ e_ => own_ne HN Ho (by decide) (by rw [h_, e_]))
  replace HS := HS.trans (hc.below (fun k e => by omega) (Nat.le_trans hBr HS.size))
  replace HB := HB.trans (hc.below (B := w.heap.size) (fun k e => by omega) HB.size)
  clear hc
  clear Ho
  have Ho := N_
  clear N_
  refine Fw.hNext ⟨HS, Hn⟩ ?_
  refine Fw.hDone (by kernel_rfl) ?_
  refine Fw.X_blockN ?_
  refine hK9 _ _ (Fw.FC.sub (f' := [(4, _), (3, _), (2, _), (1, _)]) (.cons rfl (.cons rfl (.cons rfl (.cons rfl .nil)))) ?_)
  refine Fw.region ?_
  refine Fw.s (Fw.val_move rfl) rfl ?_
  refine Fw.s (Fw.val_bin rfl rfl (Fw.b_add (Fw.i64_ok (by omega)))) rfl ?_
  refine Fw.s (Fw.val_assign rfl) rfl ?_
  refine Fw.nil ?_
  refine Fw.roundEnd _ _ (by omega) ⟨k + 1, A37, c37, rfl, by omega, Hn, Hr, Ho, HN, HB, rfl⟩ (.cons rfl (.cons rfl (.cons rfl (.cons rfl .nil))))
  rintro hlt
  refine Fw.nil ?_
  refine hK7 _ _ ?_
  refine Fw.condF rfl ?_
  refine Fw.exit ?_
  refine Fw.X_exit ?_
  refine Fw.X_exit ?_
  refine Fw.X_block ?_
  refine hK3 _ _ (Fw.FC.sub (f' := [(3, _), (2, _)]) (.cons rfl (.cons rfl .nil)) ?_)
  refine Fw.seq fun _ hK13 => ?_
  obtain rfl : k = E.length := by omega
  rw [List.take_length] at HN
  refine Fw.region ?_
  refine Fw.ldA ag24 rfl (Fw.rdBlk Ho) rfl rfl ?_
  refine Fw.storeW sz24 rfl rfl Hr rfl rfl (by exact Fw.oneCells rfl) ?_
  intro w13 N_ hc
  replace Hn := Hn.chg hc (by omega)
  replace Ho := Ho.chg hc (by omega)
  replace HN := own_to HN hc (fun g_ h_ e_ => own_ne HN Hr (by decide) (by rw [h_, e_]))
  replace HB := HB.trans (hc.below (B := w.heap.size) (fun k e => by omega) HB.size)
  clear hc
  clear Hr
  have Hr := N_
  clear N_
  replace Hr : Blk w13 gr 24 #[.int .i64 (N : Int), .slice A_ E.length c_] := Hr
  refine Fw.nil ?_
  refine hK13 _ _ ?_
  refine Fw.ret ?_
  refine Fw.ret_ [.cell 2 24] [_] Try.results77 (Fw.ResL.cellM rfl ag24 (Fw.rdBlk Hr) rfl .nil) ?_
  exact ⟨A_, c_, rfl, HN, HB⟩

set_option maxRecDepth 100000 in
set_option maxHeartbeats 1000000 in
theorem refTo_any (w : World) (N : Nat) (E : List Rg.Ed) (Ae : Option Addr) (ce : Nat) (hE : Rd w Ae (E.flatMap Rg.Ed.cells)) (hEO : Rg.EOk N E) (hEl : E.length ≤ 65536) (hN : N ≤ 12) (A : Option Addr) (ts : List Int) (c : Nat) (h : Rd w A (ts.map (.int .i64))) (An : Option Addr) (ends : List Int) (cn : Nat) (hnl : ends.length ≤ 65536) (hen : Rd w An (ends.map (.int .i64))) : Calls Try.prog 72 #[.agg #[.int .i64 (N : Int), .slice Ae E.length ce], .slice A ts.length c, .slice An ends.length cn] w fun e_ w' => ∃ A' c', e_ = .returned (.slice A' N c') ∧ w'.ownsRow w.heap.size 2 1 (.slice A' N c') N ((Sp.rounds (Rg.arcT N E ts false) (Sp.init N ends) N).map (.int .i64)) ∧ Below w.heap.size w w' := by
  refine Fw.calls Try.func72 rfl Try.ntmps72 rfl ?_
  have HB := Below.refl (w.heap.size) w
  refine Fw.seq fun _ hK1 => ?_
  refine Fw.region ?_
  refine Fw.box rfl rfl ?_
  intro w1 gn egn Hn hb
  have lgn : w.heap.size ≤ gn := by have := HB.size; omega
  replace HB := HB.trans (hb.mono HB.size)
  clear hb
  clear egn
  refine Fw.s (Fw.val_assign rfl) rfl ?_
  refine Fw.nil ?_
  refine hK1 _ _ ?_
  refine Fw.seq fun _ hK2 => ?_
  refine Fw.region ?_
  refine Fw.ldA ag24 rfl (Fw.rdBlk Hn) rfl rfl ?_
  refine Fw.call cf77 rfl rfl (back_any _ N E Ae ce (hE.low HB) hEl) ?_
  rintro e_ w2 ⟨A2, c2, rfl, HK2, hb⟩
  refine ⟨_, rfl, ?_⟩
  replace Hn := Hn.low hb
  replace HB := HB.trans (hb.mono HB.size)
  clear hb
  have hz1 := HB.size
  have hml : (E.map Rg.Ed.swap).length = E.length := List.length_map ..
  refine Fw.s (Fw.val_move rfl) rfl ?_
  refine Fw.s (Fw.val_move rfl) rfl ?_
  refine Fw.call cf76 rfl rfl ((show Calls _ _ #[.agg #[.int .i64 (N : Int), .slice A2 E.length c2], .slice A ts.length c, .slice An ends.length cn] _ _ from by have := refFrom_any _ N (E.map Rg.Ed.swap) A2 c2 (Rd.of_own HK2) (Rg.swap_ok hEO) (by omega) hN A ts c (h.low HB) An ends cn hnl (hen.low HB); rw [Rg.arcT_swap, hml] at this; exact this)) ?_
  rintro e_ w3 ⟨A3, c3, rfl, HS, hb⟩
  refine ⟨_, rfl, ?_⟩
  replace Hn := Hn.low hb
  replace HK2 := own_below HK2 hb (Nat.le_refl _)
  replace HB := HB.trans (hb.mono HB.size)
  clear hb
  refine Fw.s (Fw.val_assign rfl) rfl ?_
  refine Fw.nil ?_
  refine hK2 _ _ (Fw.FC.sub (f' := [(6, _)]) (.cons rfl .nil) ?_)
  refine Fw.ret ?_
  refine Fw.ret_ [.tmp 6] [_] Try.results72 (.tmp rfl .nil) ?_
  exact ⟨A3, c3, rfl, own_base HS hz1, HB⟩

set_option maxRecDepth 100000 in
set_option maxHeartbeats 1000000 in
theorem right_any (w : World) (N : Int) (R : List Rg.Re) (Ae : Option Addr) (ce : Nat) (hR : Rd w Ae (R.flatMap Rg.Re.cells)) : Calls Try.prog 24 #[.agg #[.int .i64 N, .slice Ae R.length ce]] w fun e_ w' => e_ = .returned (.bool (decide (Rg.Right N R))) ∧ Below w.heap.size w w' := by
  refine Fw.calls Try.func24 rfl Try.ntmps24 rfl ?_
  have HB := Below.refl (w.heap.size) w
  refine Fw.seq fun _ hK1 => ?_
  refine Fw.region ?_
  refine Fw.box rfl rfl ?_
  intro w1 gn egn Hn hb
  have lgn : w.heap.size ≤ gn := by have := HB.size; omega
  replace HB := HB.trans (hb.mono HB.size)
  clear hb
  clear egn
  refine Fw.s (Fw.val_assign rfl) rfl ?_
  refine Fw.nil ?_
  refine hK1 _ _ ?_
  refine Fw.seq fun _ hK2 => ?_
  refine Fw.seq fun _ hK3 => ?_
  refine Fw.region ?_
  refine Fw.s (Fw.val_fieldAddr fl24_0 rfl rfl) rfl ?_
  refine Fw.ld sc3 rfl (Hn.cell 0) rfl ?_
  refine Fw.s2 (Fw.val_bin rfl rfl Fw.b_lss) rfl ?_ ?_
  rintro hN1
  refine Fw.s (Fw.val_move rfl) rfl ?_
  refine Fw.gF (d := 8) rfl rfl rfl rfl ?_
  refine Fw.gF (d := 8) rfl rfl rfl rfl ?_
  refine Fw.gF (d := 8) rfl rfl rfl rfl ?_
  refine Fw.s (Fw.val_pickT rfl rfl) rfl ?_
  refine Fw.s (Fw.val_move rfl) rfl ?_
  refine Fw.gF (d := 13) rfl rfl rfl rfl ?_
  refine Fw.gF (d := 13) rfl rfl rfl rfl ?_
  refine Fw.gF (d := 13) rfl rfl rfl rfl ?_
  refine Fw.gF (d := 13) rfl rfl rfl rfl ?_
  refine Fw.s (Fw.val_pickT rfl rfl) rfl ?_
  refine Fw.nil ?_
  refine hK3 _ _ (Fw.FC.sub (f' := [(18, _), (1, _)]) (.cons rfl (.cons rfl .nil)) ?_)
  refine Fw.condT rfl ?_
  refine Fw.seq fun _ hK5 => ?_
  refine Fw.region ?_
  refine Fw.s (Fw.val_assign rfl) rfl ?_
  refine Fw.nil ?_
  refine hK5 _ _ ?_
  refine Fw.ret ?_
  refine Fw.X_ret ?_
  refine Fw.ret_ [.tmp 2] [_] Try.results24 (.tmp rfl .nil) ?_
  exact ⟨ret_bool (decide_eq_false (fun h => by have := h.1; have := h.2.1; omega)).symm, HB⟩
  rintro hN1
  refine Fw.s (Fw.val_move rfl) rfl ?_
  refine Fw.gT (d := 8) rfl rfl ?_
  refine Fw.s (Fw.val_fieldAddr fl24_0 rfl rfl) rfl ?_
  refine Fw.gT (d := 8) rfl rfl ?_
  refine Fw.ld sc3 rfl (Hn.cell 0) rfl ?_
  refine Fw.gT (d := 8) rfl rfl ?_
  refine Fw.s2 (Fw.val_bin rfl rfl Fw.b_gtr) rfl ?_ ?_
  rintro hN2
  refine Fw.s (Fw.val_pickF rfl rfl) rfl ?_
  refine Fw.s (Fw.val_move rfl) rfl ?_
  refine Fw.gF (d := 13) rfl rfl rfl rfl ?_
  refine Fw.gF (d := 13) rfl rfl rfl rfl ?_
  refine Fw.gF (d := 13) rfl rfl rfl rfl ?_
  refine Fw.gF (d := 13) rfl rfl rfl rfl ?_
  refine Fw.s (Fw.val_pickT rfl rfl) rfl ?_
  refine Fw.nil ?_
  refine hK3 _ _ (Fw.FC.sub (f' := [(18, _), (1, _)]) (.cons rfl (.cons rfl .nil)) ?_)
  refine Fw.condT rfl ?_
  refine Fw.seq fun _ hK7 => ?_
  refine Fw.region ?_
  refine Fw.s (Fw.val_assign rfl) rfl ?_
  refine Fw.nil ?_
  refine hK7 _ _ ?_
  refine Fw.ret ?_
  refine Fw.X_ret ?_
  refine Fw.ret_ [.tmp 2] [_] Try.results24 (.tmp rfl .nil) ?_
  exact ⟨ret_bool (decide_eq_false (fun h => by have := h.1; have := h.2.1; omega)).symm, HB⟩
  rintro hN2
  refine Fw.s (Fw.val_pickF rfl rfl) rfl ?_
  refine Fw.s (Fw.val_move rfl) rfl ?_
  refine Fw.gT (d := 13) rfl rfl ?_
  refine Fw.s (Fw.val_fieldAddr fl24_1 rfl rfl) rfl ?_
  refine Fw.gT (d := 13) rfl rfl ?_
  refine Fw.ld sc22 rfl (Hn.cell 1) rfl ?_
  refine Fw.gT (d := 13) rfl rfl ?_
  refine Fw.s (Fw.val_len Try.underlying22 rfl) rfl ?_
  refine Fw.gT (d := 13) rfl rfl ?_
  refine Fw.s2 (Fw.val_bin rfl rfl Fw.b_gtr) rfl ?_ ?_
  rintro hE
  refine Fw.s (Fw.val_pickF rfl rfl) rfl ?_
  refine Fw.nil ?_
  refine hK3 _ _ (Fw.FC.sub (f' := [(18, _), (1, _)]) (.cons rfl (.cons rfl .nil)) ?_)
  refine Fw.condT rfl ?_
  refine Fw.seq fun _ hK9 => ?_
  refine Fw.region ?_
  refine Fw.s (Fw.val_assign rfl) rfl ?_
  refine Fw.nil ?_
  refine hK9 _ _ ?_
  refine Fw.ret ?_
  refine Fw.X_ret ?_
  refine Fw.ret_ [.tmp 2] [_] Try.results24 (.tmp rfl .nil) ?_
  exact ⟨ret_bool (decide_eq_false (fun h => by have := h.1; have := h.2.1; omega)).symm, HB⟩
  rintro hE
  refine Fw.s (Fw.val_pickF rfl rfl) rfl ?_
  refine Fw.nil ?_
  refine hK3 _ _ (Fw.FC.sub (f' := [(18, _), (1, _)]) (.cons rfl (.cons rfl .nil)) ?_)
  refine Fw.condF rfl ?_
  refine Fw.skip ?_
  refine hK2 _ _ ?_
  refine Fw.seq fun _ hK10 => ?_
  refine Fw.seq fun _ hK11 => ?_
  refine Fw.region ?_
  refine Fw.s (Fw.val_assign rfl) rfl ?_
  refine Fw.nil ?_
  refine hK11 _ _ ?_
  refine Fw.block ?_
  refine Fw.loop (fun m_ f_ W_ => ∃ (k : Nat), m_ = R.length - k ∧ k ≤ R.length ∧ (∀ e ∈ R.take k, Rg.reOk N e) ∧ Blk W_ gn 24 #[.int .i64 N, .slice Ae R.length ce] ∧ Below (w.heap.size) w W_ ∧ f_ = [(3, .int .i64 k), (1, .pointer (some ⟨gn, 0, none⟩))]) ⟨_, _, ⟨0, rfl, Nat.zero_le _, (fun e he => by cases he), Hn, HB, rfl⟩, (.cons rfl (.cons rfl .nil))⟩ ?_
  clear Hn HB
  rintro m12_ _ w2 ⟨k, hm12_, hkl, hok, Hn, HB, rfl⟩
  refine Fw.seq fun _ hK13 => ?_
  refine Fw.seq fun _ hK14 => ?_
  refine Fw.region ?_
  refine Fw.s (Fw.val_move rfl) rfl ?_
  refine Fw.s (Fw.val_fieldAddr fl24_1 rfl rfl) rfl ?_
  refine Fw.ld sc22 rfl (Hn.cell 1) rfl ?_
  refine Fw.s (Fw.val_len Try.underlying22 rfl) rfl ?_
  refine Fw.s2 (Fw.val_bin rfl rfl Fw.b_lss) rfl ?_ ?_
  rintro hlt
  refine Fw.nil ?_
  refine hK14 _ _ ?_
  refine Fw.condT rfl ?_
  refine Fw.skip ?_
  refine hK13 _ _ ?_
  refine Fw.seq fun _ hK16 => ?_
  refine Fw.block ?_
  refine Fw.seq fun _ hK17 => ?_
  have hkl2 : k < R.length := by omega
  obtain ⟨ae, be_, oe_, hAe, hadde, HEe⟩ := Fw.rdAt Rg.Re.len (by decide) hR k hkl2
  refine Fw.region ?_
  refine Fw.s (Fw.val_fieldAddr fl24_1 rfl rfl) rfl ?_
  refine Fw.ld sc22 rfl (Hn.cell 1) rfl ?_
  refine Fw.s (Fw.val_move rfl) rfl ?_
  refine Fw.s (Fw.val_indexR Try.underlying22 sz75 rfl hAe rfl rfl hkl2 hadde) rfl ?_
  refine Fw.ldA ag75 rfl ((HEe.low HB)) rfl rfl ?_
  refine Fw.alloc ze75 rfl ?_
  intro w3 ge ege He hb
  have n_gn_ge : gn < ge := by have := Hn.lt; omega
  have lge : w.heap.size ≤ ge := by have := HB.size; omega
  replace Hn := Hn.low hb
  replace HB := HB.trans (hb.mono HB.size)
  clear hb
  clear ege
  refine Fw.storeW sz75 rfl rfl He rfl rfl (by exact Fw.oneCells rfl) ?_
  intro w4 N_ hc
  replace Hn := Hn.chg hc (by omega)
  replace HB := HB.trans (hc.below (B := w.heap.size) (fun k e => by omega) HB.size)
  clear hc
  clear He
  have He := N_
  clear N_
  replace He : Blk w4 ge 75 #[.int .i64 R[k].f, .int .i64 R[k].t, .int .i64 R[k].m] := He
  refine Fw.nil ?_
  refine hK17 _ _ (Fw.FC.sub (f' := [(4, _), (3, _), (1, _)]) (.cons rfl (.cons rfl (.cons rfl .nil))) ?_)
  refine Fw.seq fun _ hK19 => ?_
  refine Fw.regionQ (by kernel_rfl) (by kernel_rfl) ?_
  refine Fw.q (Fw.val_fieldAddr fl75_0 rfl rfl) rfl ?_
  refine Fw.ldQ sc3 rfl (He.cell 0) rfl ?_
  refine Fw.q2 (Fw.val_bin rfl rfl Fw.b_lss) rfl ?_ ?_
  rintro h1
  refine Fw.q (Fw.val_move rfl) rfl ?_
  refine Fw.gFQ (d := 34) rfl rfl rfl rfl ?_
  refine Fw.gFQ (d := 34) rfl rfl rfl rfl ?_
  refine Fw.gFQ (d := 34) rfl rfl rfl rfl ?_
  refine Fw.gFQ (d := 34) rfl rfl rfl rfl ?_
  refine Fw.gFQ (d := 34) rfl rfl rfl rfl ?_
  refine Fw.q (Fw.val_pickT rfl rfl) rfl ?_
  refine Fw.q (Fw.val_move rfl) rfl ?_
  refine Fw.gFQ (d := 41) rfl rfl rfl rfl ?_
  refine Fw.gFQ (d := 41) rfl rfl rfl rfl ?_
  refine Fw.gFQ (d := 41) rfl rfl rfl rfl ?_
  refine Fw.q (Fw.val_pickT rfl rfl) rfl ?_
  refine Fw.q (Fw.val_move rfl) rfl ?_
  refine Fw.gFQ (d := 46) rfl rfl rfl rfl ?_
  refine Fw.gFQ (d := 46) rfl rfl rfl rfl ?_
  refine Fw.gFQ (d := 46) rfl rfl rfl rfl ?_
  refine Fw.gFQ (d := 46) rfl rfl rfl rfl ?_
  refine Fw.gFQ (d := 46) rfl rfl rfl rfl ?_
  refine Fw.q (Fw.val_pickT rfl rfl) rfl ?_
  refine Fw.q (Fw.val_move rfl) rfl ?_
  refine Fw.gFQ (d := 53) rfl rfl rfl rfl ?_
  refine Fw.gFQ (d := 53) rfl rfl rfl rfl ?_
  refine Fw.gFQ (d := 53) rfl rfl rfl rfl ?_
  refine Fw.q (Fw.val_pickT rfl rfl) rfl ?_
  refine Fw.q (Fw.val_move rfl) rfl ?_
  refine Fw.gFQ (d := 58) rfl rfl rfl rfl ?_
  refine Fw.gFQ (d := 58) rfl rfl rfl rfl ?_
  refine Fw.gFQ (d := 58) rfl rfl rfl rfl ?_
  refine Fw.gFQ (d := 58) rfl rfl rfl rfl ?_
  refine Fw.gUQ (d := 62) rfl rfl rfl ?_
  refine Fw.gUQ (d := 62) rfl rfl rfl ?_
  refine Fw.gUQ (d := 62) rfl rfl rfl ?_
  refine Fw.gUQ (d := 62) rfl rfl rfl ?_
  refine Fw.gFQ (d := 58) rfl rfl rfl rfl ?_
  refine Fw.q (Fw.val_pickT rfl rfl) rfl ?_
  refine Fw.nilQ ?_
  intro w5 hb
  replace Hn := Hn.low hb
  replace He := He.low hb
  replace HB := HB.trans (hb.mono HB.size)
  clear hb
  refine hK19 _ _ (Fw.FC.sub (f' := [(68, _), (67, _), (66, _), (65, _), (64, _), (63, _), (62, _), (61, _), (60, _), (59, _), (56, _), (55, _), (54, _), (51, _), (50, _), (49, _), (48, _), (47, _), (44, _), (43, _), (42, _), (39, _), (38, _), (37, _), (36, _), (35, _), (3, _), (1, _)]) (.cons rfl (.cons rfl (.cons rfl (.cons rfl (.cons rfl (.cons rfl (.cons rfl (.cons rfl (.cons rfl (.cons rfl (.cons rfl (.cons rfl (.cons rfl (.cons rfl (.cons rfl (.cons rfl (.cons rfl (.cons rfl (.cons rfl (.cons rfl (.cons rfl (.cons rfl (.cons rfl (.cons rfl (.cons rfl (.cons rfl (.cons rfl (.cons rfl .nil)))))))))))))))))))))))))))) ?_)
  refine Fw.condT rfl ?_
  refine Fw.seq fun _ hK21 => ?_
  refine Fw.region ?_
  refine Fw.s (Fw.val_assign rfl) rfl ?_
  refine Fw.nil ?_
  refine hK21 _ _ (Fw.FC.sub (f' := [(2, _)]) (.cons rfl .nil) ?_)
  refine Fw.ret ?_
  refine Fw.X_blockR ?_
  refine Fw.X_ret ?_
  refine Fw.X_ret ?_
  refine Fw.X_blockR ?_
  refine Fw.X_ret ?_
  refine Fw.ret_ [.tmp 2] [_] Try.results24 (.tmp rfl .nil) ?_
  exact ⟨ret_bool (decide_eq_false (fun h => by have h2 := h.2.2 R[k] (List.getElem_mem hkl2); unfold Rg.reOk at h2; omega)).symm, HB⟩
  rintro h1
  refine Fw.q (Fw.val_move rfl) rfl ?_
  refine Fw.gTQ (d := 34) rfl rfl ?_
  refine Fw.q (Fw.val_fieldAddr fl75_0 rfl rfl) rfl ?_
  refine Fw.gTQ (d := 34) rfl rfl ?_
  refine Fw.ldQ sc3 rfl (He.cell 0) rfl ?_
  refine Fw.gTQ (d := 34) rfl rfl ?_
  refine Fw.q (Fw.val_fieldAddr fl24_0 rfl rfl) rfl ?_
  refine Fw.gTQ (d := 34) rfl rfl ?_
  refine Fw.ldQ sc3 rfl (Hn.cell 0) rfl ?_
  refine Fw.gTQ (d := 34) rfl rfl ?_
  refine Fw.q2 (Fw.val_bin rfl rfl Fw.b_geq) rfl ?_ ?_
  rintro h2
  refine Fw.q (Fw.val_pickF rfl rfl) rfl ?_
  refine Fw.q (Fw.val_move rfl) rfl ?_
  refine Fw.gFQ (d := 41) rfl rfl rfl rfl ?_
  refine Fw.gFQ (d := 41) rfl rfl rfl rfl ?_
  refine Fw.gFQ (d := 41) rfl rfl rfl rfl ?_
  refine Fw.q (Fw.val_pickT rfl rfl) rfl ?_
  refine Fw.q (Fw.val_move rfl) rfl ?_
  refine Fw.gFQ (d := 46) rfl rfl rfl rfl ?_
  refine Fw.gFQ (d := 46) rfl rfl rfl rfl ?_
  refine Fw.gFQ (d := 46) rfl rfl rfl rfl ?_
  refine Fw.gFQ (d := 46) rfl rfl rfl rfl ?_
  refine Fw.gFQ (d := 46) rfl rfl rfl rfl ?_
  refine Fw.q (Fw.val_pickT rfl rfl) rfl ?_
  refine Fw.q (Fw.val_move rfl) rfl ?_
  refine Fw.gFQ (d := 53) rfl rfl rfl rfl ?_
  refine Fw.gFQ (d := 53) rfl rfl rfl rfl ?_
  refine Fw.gFQ (d := 53) rfl rfl rfl rfl ?_
  refine Fw.q (Fw.val_pickT rfl rfl) rfl ?_
  refine Fw.q (Fw.val_move rfl) rfl ?_
  refine Fw.gFQ (d := 58) rfl rfl rfl rfl ?_
  refine Fw.gFQ (d := 58) rfl rfl rfl rfl ?_
  refine Fw.gFQ (d := 58) rfl rfl rfl rfl ?_
  refine Fw.gFQ (d := 58) rfl rfl rfl rfl ?_
  refine Fw.gUQ (d := 62) rfl rfl rfl ?_
  refine Fw.gUQ (d := 62) rfl rfl rfl ?_
  refine Fw.gUQ (d := 62) rfl rfl rfl ?_
  refine Fw.gUQ (d := 62) rfl rfl rfl ?_
  refine Fw.gFQ (d := 58) rfl rfl rfl rfl ?_
  refine Fw.q (Fw.val_pickT rfl rfl) rfl ?_
  refine Fw.nilQ ?_
  intro w6 hb
  replace Hn := Hn.low hb
  replace He := He.low hb
  replace HB := HB.trans (hb.mono HB.size)
  clear hb
  refine hK19 _ _ (Fw.FC.sub (f' := [(68, _), (67, _), (66, _), (65, _), (64, _), (63, _), (62, _), (61, _), (60, _), (59, _), (56, _), (55, _), (54, _), (51, _), (50, _), (49, _), (48, _), (47, _), (44, _), (43, _), (42, _), (39, _), (38, _), (37, _), (36, _), (35, _), (3, _), (1, _)]) (.cons rfl (.cons rfl (.cons rfl (.cons rfl (.cons rfl (.cons rfl (.cons rfl (.cons rfl (.cons rfl (.cons rfl (.cons rfl (.cons rfl (.cons rfl (.cons rfl (.cons rfl (.cons rfl (.cons rfl (.cons rfl (.cons rfl (.cons rfl (.cons rfl (.cons rfl (.cons rfl (.cons rfl (.cons rfl (.cons rfl (.cons rfl (.cons rfl .nil)))))))))))))))))))))))))))) ?_)
  refine Fw.condT rfl ?_
  refine Fw.seq fun _ hK23 => ?_
  refine Fw.region ?_
  refine Fw.s (Fw.val_assign rfl) rfl ?_
  refine Fw.nil ?_
  refine hK23 _ _ (Fw.FC.sub (f' := [(2, _)]) (.cons rfl .nil) ?_)
  refine Fw.ret ?_
  refine Fw.X_blockR ?_
  refine Fw.X_ret ?_
  refine Fw.X_ret ?_
  refine Fw.X_blockR ?_
  refine Fw.X_ret ?_
  refine Fw.ret_ [.tmp 2] [_] Try.results24 (.tmp rfl .nil) ?_
  exact ⟨ret_bool (decide_eq_false (fun h => by have h2 := h.2.2 R[k] (List.getElem_mem hkl2); unfold Rg.reOk at h2; omega)).symm, HB⟩
  rintro h2
  refine Fw.q (Fw.val_pickF rfl rfl) rfl ?_
  refine Fw.q (Fw.val_move rfl) rfl ?_
  refine Fw.gTQ (d := 41) rfl rfl ?_
  refine Fw.q (Fw.val_fieldAddr fl75_1 rfl rfl) rfl ?_
  refine Fw.gTQ (d := 41) rfl rfl ?_
  refine Fw.ldQ sc3 rfl (He.cell 1) rfl ?_
  refine Fw.gTQ (d := 41) rfl rfl ?_
  refine Fw.q2 (Fw.val_bin rfl rfl Fw.b_lss) rfl ?_ ?_
  rintro h3
  refine Fw.q (Fw.val_pickF rfl rfl) rfl ?_
  refine Fw.q (Fw.val_move rfl) rfl ?_
  refine Fw.gFQ (d := 46) rfl rfl rfl rfl ?_
  refine Fw.gFQ (d := 46) rfl rfl rfl rfl ?_
  refine Fw.gFQ (d := 46) rfl rfl rfl rfl ?_
  refine Fw.gFQ (d := 46) rfl rfl rfl rfl ?_
  refine Fw.gFQ (d := 46) rfl rfl rfl rfl ?_
  refine Fw.q (Fw.val_pickT rfl rfl) rfl ?_
  refine Fw.q (Fw.val_move rfl) rfl ?_
  refine Fw.gFQ (d := 53) rfl rfl rfl rfl ?_
  refine Fw.gFQ (d := 53) rfl rfl rfl rfl ?_
  refine Fw.gFQ (d := 53) rfl rfl rfl rfl ?_
  refine Fw.q (Fw.val_pickT rfl rfl) rfl ?_
  refine Fw.q (Fw.val_move rfl) rfl ?_
  refine Fw.gFQ (d := 58) rfl rfl rfl rfl ?_
  refine Fw.gFQ (d := 58) rfl rfl rfl rfl ?_
  refine Fw.gFQ (d := 58) rfl rfl rfl rfl ?_
  refine Fw.gFQ (d := 58) rfl rfl rfl rfl ?_
  refine Fw.gUQ (d := 62) rfl rfl rfl ?_
  refine Fw.gUQ (d := 62) rfl rfl rfl ?_
  refine Fw.gUQ (d := 62) rfl rfl rfl ?_
  refine Fw.gUQ (d := 62) rfl rfl rfl ?_
  refine Fw.gFQ (d := 58) rfl rfl rfl rfl ?_
  refine Fw.q (Fw.val_pickT rfl rfl) rfl ?_
  refine Fw.nilQ ?_
  intro w7 hb
  replace Hn := Hn.low hb
  replace He := He.low hb
  replace HB := HB.trans (hb.mono HB.size)
  clear hb
  refine hK19 _ _ (Fw.FC.sub (f' := [(68, _), (67, _), (66, _), (65, _), (64, _), (63, _), (62, _), (61, _), (60, _), (59, _), (56, _), (55, _), (54, _), (51, _), (50, _), (49, _), (48, _), (47, _), (44, _), (43, _), (42, _), (39, _), (38, _), (37, _), (36, _), (35, _), (3, _), (1, _)]) (.cons rfl (.cons rfl (.cons rfl (.cons rfl (.cons rfl (.cons rfl (.cons rfl (.cons rfl (.cons rfl (.cons rfl (.cons rfl (.cons rfl (.cons rfl (.cons rfl (.cons rfl (.cons rfl (.cons rfl (.cons rfl (.cons rfl (.cons rfl (.cons rfl (.cons rfl (.cons rfl (.cons rfl (.cons rfl (.cons rfl (.cons rfl (.cons rfl .nil)))))))))))))))))))))))))))) ?_)
  refine Fw.condT rfl ?_
  refine Fw.seq fun _ hK25 => ?_
  refine Fw.region ?_
  refine Fw.s (Fw.val_assign rfl) rfl ?_
  refine Fw.nil ?_
  refine hK25 _ _ (Fw.FC.sub (f' := [(2, _)]) (.cons rfl .nil) ?_)
  refine Fw.ret ?_
  refine Fw.X_blockR ?_
  refine Fw.X_ret ?_
  refine Fw.X_ret ?_
  refine Fw.X_blockR ?_
  refine Fw.X_ret ?_
  refine Fw.ret_ [.tmp 2] [_] Try.results24 (.tmp rfl .nil) ?_
  exact ⟨ret_bool (decide_eq_false (fun h => by have h2 := h.2.2 R[k] (List.getElem_mem hkl2); unfold Rg.reOk at h2; omega)).symm, HB⟩
  rintro h3
  refine Fw.q (Fw.val_pickF rfl rfl) rfl ?_
  refine Fw.q (Fw.val_move rfl) rfl ?_
  refine Fw.gTQ (d := 46) rfl rfl ?_
  refine Fw.q (Fw.val_fieldAddr fl75_1 rfl rfl) rfl ?_
  refine Fw.gTQ (d := 46) rfl rfl ?_
  refine Fw.ldQ sc3 rfl (He.cell 1) rfl ?_
  refine Fw.gTQ (d := 46) rfl rfl ?_
  refine Fw.q (Fw.val_fieldAddr fl24_0 rfl rfl) rfl ?_
  refine Fw.gTQ (d := 46) rfl rfl ?_
  refine Fw.ldQ sc3 rfl (Hn.cell 0) rfl ?_
  refine Fw.gTQ (d := 46) rfl rfl ?_
  refine Fw.q2 (Fw.val_bin rfl rfl Fw.b_geq) rfl ?_ ?_
  rintro h4
  refine Fw.q (Fw.val_pickF rfl rfl) rfl ?_
  refine Fw.q (Fw.val_move rfl) rfl ?_
  refine Fw.gFQ (d := 53) rfl rfl rfl rfl ?_
  refine Fw.gFQ (d := 53) rfl rfl rfl rfl ?_
  refine Fw.gFQ (d := 53) rfl rfl rfl rfl ?_
  refine Fw.q (Fw.val_pickT rfl rfl) rfl ?_
  refine Fw.q (Fw.val_move rfl) rfl ?_
  refine Fw.gFQ (d := 58) rfl rfl rfl rfl ?_
  refine Fw.gFQ (d := 58) rfl rfl rfl rfl ?_
  refine Fw.gFQ (d := 58) rfl rfl rfl rfl ?_
  refine Fw.gFQ (d := 58) rfl rfl rfl rfl ?_
  refine Fw.gUQ (d := 62) rfl rfl rfl ?_
  refine Fw.gUQ (d := 62) rfl rfl rfl ?_
  refine Fw.gUQ (d := 62) rfl rfl rfl ?_
  refine Fw.gUQ (d := 62) rfl rfl rfl ?_
  refine Fw.gFQ (d := 58) rfl rfl rfl rfl ?_
  refine Fw.q (Fw.val_pickT rfl rfl) rfl ?_
  refine Fw.nilQ ?_
  intro w8 hb
  replace Hn := Hn.low hb
  replace He := He.low hb
  replace HB := HB.trans (hb.mono HB.size)
  clear hb
  refine hK19 _ _ (Fw.FC.sub (f' := [(68, _), (67, _), (66, _), (65, _), (64, _), (63, _), (62, _), (61, _), (60, _), (59, _), (56, _), (55, _), (54, _), (51, _), (50, _), (49, _), (48, _), (47, _), (44, _), (43, _), (42, _), (39, _), (38, _), (37, _), (36, _), (35, _), (3, _), (1, _)]) (.cons rfl (.cons rfl (.cons rfl (.cons rfl (.cons rfl (.cons rfl (.cons rfl (.cons rfl (.cons rfl (.cons rfl (.cons rfl (.cons rfl (.cons rfl (.cons rfl (.cons rfl (.cons rfl (.cons rfl (.cons rfl (.cons rfl (.cons rfl (.cons rfl (.cons rfl (.cons rfl (.cons rfl (.cons rfl (.cons rfl (.cons rfl (.cons rfl .nil)))))))))))))))))))))))))))) ?_)
  refine Fw.condT rfl ?_
  refine Fw.seq fun _ hK27 => ?_
  refine Fw.region ?_
  refine Fw.s (Fw.val_assign rfl) rfl ?_
  refine Fw.nil ?_
  refine hK27 _ _ (Fw.FC.sub (f' := [(2, _)]) (.cons rfl .nil) ?_)
  refine Fw.ret ?_
  refine Fw.X_blockR ?_
  refine Fw.X_ret ?_
  refine Fw.X_ret ?_
  refine Fw.X_blockR ?_
  refine Fw.X_ret ?_
  refine Fw.ret_ [.tmp 2] [_] Try.results24 (.tmp rfl .nil) ?_
  exact ⟨ret_bool (decide_eq_false (fun h => by have h2 := h.2.2 R[k] (List.getElem_mem hkl2); unfold Rg.reOk at h2; omega)).symm, HB⟩
  rintro h4
  refine Fw.q (Fw.val_pickF rfl rfl) rfl ?_
  refine Fw.q (Fw.val_move rfl) rfl ?_
  refine Fw.gTQ (d := 53) rfl rfl ?_
  refine Fw.q (Fw.val_fieldAddr fl75_2 rfl rfl) rfl ?_
  refine Fw.gTQ (d := 53) rfl rfl ?_
  refine Fw.ldQ sc2 rfl (He.cell 2) rfl ?_
  refine Fw.gTQ (d := 53) rfl rfl ?_
  refine Fw.q2 (Fw.val_bin rfl rfl Fw.b_lss) rfl ?_ ?_
  rintro h5
  refine Fw.q (Fw.val_pickF rfl rfl) rfl ?_
  refine Fw.q (Fw.val_move rfl) rfl ?_
  refine Fw.gFQ (d := 58) rfl rfl rfl rfl ?_
  refine Fw.gFQ (d := 58) rfl rfl rfl rfl ?_
  refine Fw.gFQ (d := 58) rfl rfl rfl rfl ?_
  refine Fw.gFQ (d := 58) rfl rfl rfl rfl ?_
  refine Fw.gUQ (d := 62) rfl rfl rfl ?_
  refine Fw.gUQ (d := 62) rfl rfl rfl ?_
  refine Fw.gUQ (d := 62) rfl rfl rfl ?_
  refine Fw.gUQ (d := 62) rfl rfl rfl ?_
  refine Fw.gFQ (d := 58) rfl rfl rfl rfl ?_
  refine Fw.q (Fw.val_pickT rfl rfl) rfl ?_
  refine Fw.nilQ ?_
  intro w9 hb
  replace Hn := Hn.low hb
  replace He := He.low hb
  replace HB := HB.trans (hb.mono HB.size)
  clear hb
  refine hK19 _ _ (Fw.FC.sub (f' := [(68, _), (67, _), (66, _), (65, _), (64, _), (63, _), (62, _), (61, _), (60, _), (59, _), (56, _), (55, _), (54, _), (51, _), (50, _), (49, _), (48, _), (47, _), (44, _), (43, _), (42, _), (39, _), (38, _), (37, _), (36, _), (35, _), (3, _), (1, _)]) (.cons rfl (.cons rfl (.cons rfl (.cons rfl (.cons rfl (.cons rfl (.cons rfl (.cons rfl (.cons rfl (.cons rfl (.cons rfl (.cons rfl (.cons rfl (.cons rfl (.cons rfl (.cons rfl (.cons rfl (.cons rfl (.cons rfl (.cons rfl (.cons rfl (.cons rfl (.cons rfl (.cons rfl (.cons rfl (.cons rfl (.cons rfl (.cons rfl .nil)))))))))))))))))))))))))))) ?_)
  refine Fw.condT rfl ?_
  refine Fw.seq fun _ hK29 => ?_
  refine Fw.region ?_
  refine Fw.s (Fw.val_assign rfl) rfl ?_
  refine Fw.nil ?_
  refine hK29 _ _ (Fw.FC.sub (f' := [(2, _)]) (.cons rfl .nil) ?_)
  refine Fw.ret ?_
  refine Fw.X_blockR ?_
  refine Fw.X_ret ?_
  refine Fw.X_ret ?_
  refine Fw.X_blockR ?_
  refine Fw.X_ret ?_
  refine Fw.ret_ [.tmp 2] [_] Try.results24 (.tmp rfl .nil) ?_
  exact ⟨ret_bool (decide_eq_false (fun h => by have h2 := h.2.2 R[k] (List.getElem_mem hkl2); unfold Rg.reOk at h2; omega)).symm, HB⟩
  rintro h5
  refine Fw.q (Fw.val_pickF rfl rfl) rfl ?_
  refine Fw.q (Fw.val_move rfl) rfl ?_
  refine Fw.gTQ (d := 58) rfl rfl ?_
  refine Fw.q (Fw.val_fieldAddr fl75_2 rfl rfl) rfl ?_
  refine Fw.gTQ (d := 58) rfl rfl ?_
  refine Fw.ldQ sc2 rfl (He.cell 2) rfl ?_
  refine Fw.gTQ (d := 58) rfl rfl ?_
  refine Fw.q2 (Fw.val_bin rfl rfl Fw.b_gtr) rfl ?_ ?_
  rintro h5b
  refine Fw.gTQ (d := 58) rfl rfl ?_
  refine Fw.q (Fw.val_move rfl) rfl ?_
  refine Fw.gTQ (d := 62) rfl rfl ?_
  refine Fw.q (Fw.val_fieldAddr fl75_2 rfl rfl) rfl ?_
  refine Fw.gTQ (d := 62) rfl rfl ?_
  refine Fw.ldQ sc2 rfl (He.cell 2) rfl ?_
  refine Fw.gTQ (d := 62) rfl rfl ?_
  refine Fw.callQ cf42 rfl rfl (fun w_ hb_ => never_any _) (fun _ _ _ h => ⟨h.1, h.2 ▸ Below.refl _ _⟩) ?_
  refine Fw.gTQ (d := 62) rfl rfl ?_
  refine Fw.q2 (Fw.val_bin rfl rfl Fw.b_neq) rfl ?_ ?_
  rintro h6
  refine Fw.gTQ (d := 58) rfl rfl ?_
  refine Fw.q (Fw.val_pickT rfl rfl) rfl ?_
  refine Fw.q (Fw.val_pickF rfl rfl) rfl ?_
  refine Fw.nilQ ?_
  intro w10 hb
  replace Hn := Hn.low hb
  replace He := He.low hb
  replace HB := HB.trans (hb.mono HB.size)
  clear hb
  refine hK19 _ _ (Fw.FC.sub (f' := [(68, _), (67, _), (66, _), (65, _), (64, _), (63, _), (62, _), (61, _), (60, _), (59, _), (56, _), (55, _), (54, _), (51, _), (50, _), (49, _), (48, _), (47, _), (44, _), (43, _), (42, _), (39, _), (38, _), (37, _), (36, _), (35, _), (3, _), (1, _)]) (.cons rfl (.cons rfl (.cons rfl (.cons rfl (.cons rfl (.cons rfl (.cons rfl (.cons rfl (.cons rfl (.cons rfl (.cons rfl (.cons rfl (.cons rfl (.cons rfl (.cons rfl (.cons rfl (.cons rfl (.cons rfl (.cons rfl (.cons rfl (.cons rfl (.cons rfl (.cons rfl (.cons rfl (.cons rfl (.cons rfl (.cons rfl (.cons rfl .nil)))))))))))))))))))))))))))) ?_)
  refine Fw.condT rfl ?_
  refine Fw.seq fun _ hK32 => ?_
  refine Fw.region ?_
  refine Fw.s (Fw.val_assign rfl) rfl ?_
  refine Fw.nil ?_
  refine hK32 _ _ (Fw.FC.sub (f' := [(2, _)]) (.cons rfl .nil) ?_)
  refine Fw.ret ?_
  refine Fw.X_blockR ?_
  refine Fw.X_ret ?_
  refine Fw.X_ret ?_
  refine Fw.X_blockR ?_
  refine Fw.X_ret ?_
  refine Fw.ret_ [.tmp 2] [_] Try.results24 (.tmp rfl .nil) ?_
  exact ⟨ret_bool (decide_eq_false (fun h => by have h2 := h.2.2 R[k] (List.getElem_mem hkl2); unfold Rg.reOk at h2; omega)).symm, HB⟩
  rintro h6
  refine Fw.gTQ (d := 58) rfl rfl ?_
  refine Fw.q (Fw.val_pickT rfl rfl) rfl ?_
  refine Fw.q (Fw.val_pickF rfl rfl) rfl ?_
  refine Fw.nilQ ?_
  intro w11 hb
  replace Hn := Hn.low hb
  replace He := He.low hb
  replace HB := HB.trans (hb.mono HB.size)
  clear hb
  refine hK19 _ _ (Fw.FC.sub (f' := [(68, _), (67, _), (66, _), (65, _), (64, _), (63, _), (62, _), (61, _), (60, _), (59, _), (56, _), (55, _), (54, _), (51, _), (50, _), (49, _), (48, _), (47, _), (44, _), (43, _), (42, _), (39, _), (38, _), (37, _), (36, _), (35, _), (3, _), (1, _)]) (.cons rfl (.cons rfl (.cons rfl (.cons rfl (.cons rfl (.cons rfl (.cons rfl (.cons rfl (.cons rfl (.cons rfl (.cons rfl (.cons rfl (.cons rfl (.cons rfl (.cons rfl (.cons rfl (.cons rfl (.cons rfl (.cons rfl (.cons rfl (.cons rfl (.cons rfl (.cons rfl (.cons rfl (.cons rfl (.cons rfl (.cons rfl (.cons rfl .nil)))))))))))))))))))))))))))) ?_)
  refine Fw.condF rfl ?_
  refine Fw.skip ?_
  refine Fw.X_blockN ?_
  refine hK16 _ _ ?_
  refine Fw.region ?_
  refine Fw.s (Fw.val_move rfl) rfl ?_
  refine Fw.s (Fw.val_bin rfl rfl (Fw.b_add (Fw.i64_ok (by omega)))) rfl ?_
  refine Fw.s (Fw.val_assign rfl) rfl ?_
  refine Fw.nil ?_
  refine Fw.roundEnd _ _ (by omega) ⟨k + 1, rfl, by omega, Rg.reOk_take hkl2 hok (by unfold Rg.reOk; omega), Hn, HB, rfl⟩ (.cons rfl (.cons rfl .nil))
  rintro h5b
  refine Fw.gTQ (d := 58) rfl rfl ?_
  refine Fw.q (Fw.val_move rfl) rfl ?_
  refine Fw.gFQ (d := 62) rfl rfl rfl rfl ?_
  refine Fw.gFQ (d := 62) rfl rfl rfl rfl ?_
  refine Fw.gFQ (d := 62) rfl rfl rfl rfl ?_
  refine Fw.gFQ (d := 62) rfl rfl rfl rfl ?_
  refine Fw.gTQ (d := 58) rfl rfl ?_
  refine Fw.q (Fw.val_pickF rfl rfl) rfl ?_
  refine Fw.q (Fw.val_pickF rfl rfl) rfl ?_
  refine Fw.nilQ ?_
  intro w12 hb
  replace Hn := Hn.low hb
  replace He := He.low hb
  replace HB := HB.trans (hb.mono HB.size)
  clear hb
  refine hK19 _ _ (Fw.FC.sub (f' := [(68, _), (67, _), (66, _), (65, _), (64, _), (63, _), (62, _), (61, _), (60, _), (59, _), (56, _), (55, _), (54, _), (51, _), (50, _), (49, _), (48, _), (47, _), (44, _), (43, _), (42, _), (39, _), (38, _), (37, _), (36, _), (35, _), (3, _), (1, _)]) (.cons rfl (.cons rfl (.cons rfl (.cons rfl (.cons rfl (.cons rfl (.cons rfl (.cons rfl (.cons rfl (.cons rfl (.cons rfl (.cons rfl (.cons rfl (.cons rfl (.cons rfl (.cons rfl (.cons rfl (.cons rfl (.cons rfl (.cons rfl (.cons rfl (.cons rfl (.cons rfl (.cons rfl (.cons rfl (.cons rfl (.cons rfl (.cons rfl .nil)))))))))))))))))))))))))))) ?_)
  refine Fw.condF rfl ?_
  refine Fw.skip ?_
  refine Fw.X_blockN ?_
  refine hK16 _ _ ?_
  refine Fw.region ?_
  refine Fw.s (Fw.val_move rfl) rfl ?_
  refine Fw.s (Fw.val_bin rfl rfl (Fw.b_add (Fw.i64_ok (by omega)))) rfl ?_
  refine Fw.s (Fw.val_assign rfl) rfl ?_
  refine Fw.nil ?_
  refine Fw.roundEnd _ _ (by omega) ⟨k + 1, rfl, by omega, Rg.reOk_take hkl2 hok (by unfold Rg.reOk; omega), Hn, HB, rfl⟩ (.cons rfl (.cons rfl .nil))
  rintro hlt
  refine Fw.nil ?_
  refine hK14 _ _ ?_
  refine Fw.condF rfl ?_
  refine Fw.exit ?_
  refine Fw.X_exit ?_
  refine Fw.X_exit ?_
  refine Fw.X_block ?_
  refine hK10 _ _ (Fw.FC.sub (f' := []) .nil ?_)
  refine Fw.seq fun _ hK33 => ?_
  refine Fw.region ?_
  refine Fw.s (Fw.val_assign rfl) rfl ?_
  refine Fw.nil ?_
  refine hK33 _ _ ?_
  refine Fw.ret ?_
  refine Fw.ret_ [.tmp 2] [_] Try.results24 (.tmp rfl .nil) ?_
  exact ⟨ret_bool (decide_eq_true ⟨by omega, by omega, by rwa [List.take_of_length_le (by omega)] at hok⟩).symm, HB⟩

set_option maxRecDepth 100000 in
set_option maxHeartbeats 1000000 in
theorem edgeAll_any (w : World) (g : Nat) (N : Nat) (E : List Rg.Ed) (hG : Rg.GAt w g N E) (i : Int) : Calls Try.prog 47 #[.pointer (some ⟨g, 0, none⟩), .int .i64 i] w fun e_ w' => e_ = .returned (.tuple #[.agg (Rg.edZ E i).cells.toArray, .bool (decide (0 ≤ i ∧ i < E.length))]) ∧ Below w.heap.size w w' := by
  by_cases hi : 0 ≤ i ∧ i < E.length
  obtain ⟨u, rfl⟩ : ∃ u : Nat, i = (u : Int) := ⟨i.toNat, by omega⟩
  rw [decide_eq_true hi, Rg.edZ_at rfl (show u < E.length by omega)]
  exact edge_any w g N E hG u (by omega)
  rw [decide_eq_false hi, Rg.edZ_no hi]
  exact edgeNo_any w g N E hG i hi
end Go.Proofs.Ytmacmlgjejdhpaa
