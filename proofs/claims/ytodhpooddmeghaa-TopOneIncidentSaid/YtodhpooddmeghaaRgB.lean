/- Layer 9: the iterators over a node's edges. -/
import Derived.Test.YtodhpooddmeghaaRgA
namespace Go.Proofs.Ytodhpooddmeghaa
set_option linter.unusedSimpArgs false
set_option linter.unusedVariables false
open Go.RowKit

set_option maxRecDepth 100000 in
set_option maxHeartbeats 1000000 in
theorem enumerate_any (w : World) (A : Option Addr) (N c : Nat) (v : Int) : Calls Try.prog 72 #[.slice A N c, .int .i64 v] w fun e_ w' => ∃ gl gv, e_ = .returned (.func (.func 73) #[] #[.pointer (some ⟨gv, 0, none⟩), .pointer (some ⟨gl, 0, none⟩)]) ∧ w'.cell? ⟨gl, 0, none⟩ = some (.slice A N c) ∧ w'.cell? ⟨gv, 0, none⟩ = some (.int .i64 v) ∧ Below w.heap.size w w' := by
  refine Fw.calls Try.func72 rfl Try.ntmps72 rfl ?_
  have HB := Below.refl (w.heap.size) w
  refine Fw.seq fun _ hK1 => ?_
  refine Fw.region ?_
  refine Fw.box rfl rfl ?_
  intro w1 gL egL HL hb
  have lgL : w.heap.size ≤ gL := by have := HB.size; omega
  replace HB := HB.trans (hb.mono HB.size)
  clear hb
  clear egL
  refine Fw.box rfl rfl ?_
  intro w2 gV egV HV hb
  have n_gL_gV : gL < gV := by have := HL.lt; omega
  have lgV : w.heap.size ≤ gV := by have := HB.size; omega
  replace HL := HL.low hb
  replace HB := HB.trans (hb.mono HB.size)
  clear hb
  clear egV
  refine Fw.s (Fw.val_assign rfl) rfl ?_
  refine Fw.nil ?_
  refine hK1 _ _ ?_
  refine Fw.seq fun _ hK2 => ?_
  refine Fw.region ?_
  refine Fw.s (Fw.val_func rfl rfl) rfl ?_
  refine Fw.s (Fw.val_assign rfl) rfl ?_
  refine Fw.nil ?_
  refine hK2 _ _ ?_
  refine Fw.ret ?_
  refine Fw.ret_ [.tmp 4] [_] Try.results72 (.tmp rfl .nil) ?_
  exact ⟨gL, gV, rfl, by rw [HL.cell]; rfl, by rw [HV.cell]; rfl, HB⟩

set_option maxRecDepth 100000 in
set_option maxHeartbeats 1000000 in
theorem outEdges_any (w : World) (g : Nat) (N : Nat) (E : List Rg.Ed) (Ae : Option Addr) (ce : Nat) (Ao : Option Addr) (co : Nat) (Ai : Option Addr) (ci : Nat) (svO svI : List Value) (hg : Rg.GP w g N E Ae ce Ao co Ai ci svO svI) (v : Int) : Calls Try.prog 66 #[.pointer (some ⟨g, 0, none⟩), .int .i64 v] w fun e_ w' => ∃ gl gv, e_ = .returned (.func (.func 73) #[] #[.pointer (some ⟨gv, 0, none⟩), .pointer (some ⟨gl, 0, none⟩)]) ∧ w'.cell? ⟨gl, 0, none⟩ = some (.slice Ao N co) ∧ w'.cell? ⟨gv, 0, none⟩ = some (.int .i64 v) ∧ Below w.heap.size w w' := by
  have HG := hg.blk
  refine Fw.calls Try.func66 rfl Try.ntmps66 rfl ?_
  have HB := Below.refl (w.heap.size) w
  refine Fw.seq fun _ hK1 => ?_
  refine Fw.region ?_
  refine Fw.s (Fw.val_assign rfl) rfl ?_
  refine Fw.nil ?_
  refine hK1 _ _ ?_
  refine Fw.seq fun _ hK2 => ?_
  refine Fw.region ?_
  refine Fw.s (Fw.val_move rfl) rfl ?_
  refine Fw.s (Fw.val_nil rfl) rfl ?_
  refine Fw.s (Fw.val_fieldAddr fl107_1 rfl rfl) rfl ?_
  refine Fw.ld sc105 rfl ((HG.low HB).cell 1) rfl ?_
  refine Fw.s (Fw.val_move rfl) rfl ?_
  refine Fw.call cf72 rfl rfl (enumerate_any _ Ao N co v) ?_
  rintro e_ w1 ⟨gl, gv, rfl, HL, HV, hb⟩
  refine ⟨_, rfl, ?_⟩
  replace HB := HB.trans (hb.mono HB.size)
  clear hb
  refine Fw.s (Fw.val_assign rfl) rfl ?_
  refine Fw.nil ?_
  refine hK2 _ _ (Fw.FC.sub (f' := [(4, _)]) (.cons rfl .nil) ?_)
  refine Fw.ret ?_
  refine Fw.ret_ [.tmp 4] [_] Try.results66 (.tmp rfl .nil) ?_
  exact ⟨gl, gv, rfl, HL, HV, HB⟩

set_option maxRecDepth 100000 in
set_option maxHeartbeats 1000000 in
theorem inEdges_any (w : World) (g : Nat) (N : Nat) (E : List Rg.Ed) (Ae : Option Addr) (ce : Nat) (Ao : Option Addr) (co : Nat) (Ai : Option Addr) (ci : Nat) (svO svI : List Value) (hg : Rg.GP w g N E Ae ce Ao co Ai ci svO svI) (v : Int) : Calls Try.prog 70 #[.pointer (some ⟨g, 0, none⟩), .int .i64 v] w fun e_ w' => ∃ gl gv, e_ = .returned (.func (.func 73) #[] #[.pointer (some ⟨gv, 0, none⟩), .pointer (some ⟨gl, 0, none⟩)]) ∧ w'.cell? ⟨gl, 0, none⟩ = some (.slice Ai N ci) ∧ w'.cell? ⟨gv, 0, none⟩ = some (.int .i64 v) ∧ Below w.heap.size w w' := by
  have HG := hg.blk
  refine Fw.calls Try.func70 rfl Try.ntmps70 rfl ?_
  have HB := Below.refl (w.heap.size) w
  refine Fw.seq fun _ hK1 => ?_
  refine Fw.region ?_
  refine Fw.s (Fw.val_assign rfl) rfl ?_
  refine Fw.nil ?_
  refine hK1 _ _ ?_
  refine Fw.seq fun _ hK2 => ?_
  refine Fw.region ?_
  refine Fw.s (Fw.val_move rfl) rfl ?_
  refine Fw.s (Fw.val_nil rfl) rfl ?_
  refine Fw.s (Fw.val_fieldAddr fl107_2 rfl rfl) rfl ?_
  refine Fw.ld sc105 rfl ((HG.low HB).cell 2) rfl ?_
  refine Fw.s (Fw.val_move rfl) rfl ?_
  refine Fw.call cf72 rfl rfl (enumerate_any _ Ai N ci v) ?_
  rintro e_ w1 ⟨gl, gv, rfl, HL, HV, hb⟩
  refine ⟨_, rfl, ?_⟩
  replace HB := HB.trans (hb.mono HB.size)
  clear hb
  refine Fw.s (Fw.val_assign rfl) rfl ?_
  refine Fw.nil ?_
  refine hK2 _ _ (Fw.FC.sub (f' := [(4, _)]) (.cons rfl .nil) ?_)
  refine Fw.ret ?_
  refine Fw.ret_ [.tmp 4] [_] Try.results70 (.tmp rfl .nil) ?_
  exact ⟨gl, gv, rfl, HL, HV, HB⟩

set_option maxRecDepth 100000 in
set_option maxHeartbeats 1000000 in
theorem enum_stops {α : Type} (enc : α → Nat) (xs : List α) (w₀ w : World) (gv gl v : Nat) (Ao : Option Addr) (no co : Nat) (svs : List Value) (A : Option Addr) (c : Nat)
    (hxl : xs.length ≤ 65536) (hb : Below w₀.heap.size w₀ w) (hl : w.cell? ⟨gl, 0, none⟩ = some (.slice Ao no co)) (hv : w.cell? ⟨gv, 0, none⟩ = some (.int .i64 v)) (hvn : v < no) (hr : Rd w₀ Ao svs) (hsn : v < svs.length) (hsv : svs[v] = .slice A xs.length c) (hx : Rd w₀ A (xs.map fun x => .int .i64 (enc x : Nat))) :
    SeqStopsK Fence.wide 1 Try.prog 73 #[.pointer (some ⟨gv, 0, none⟩), .pointer (some ⟨gl, 0, none⟩)] (fun x => #[.int .i64 (enc x : Nat)]) (Below w₀.heap.size) (· = xs) (fun pre => ∃ s, pre ++ s = xs) xs.length w := by
  intro l J Jx W hW hJ hJx hY h0
  refine callsIn_wide.2 ?_
  have HB : Below w₀.heap.size w₀ W := hb.trans (hW.mono hb.size)
  replace hl := (hW.cell (World.block_lt_of_cell? _ _ hl)).trans hl
  replace hv := (hW.cell (World.block_lt_of_cell? _ _ hv)).trans hv
  show Calls Try.prog 73 #[.func (.yield l) #[] #[], .pointer (some ⟨gv, 0, none⟩), .pointer (some ⟨gl, 0, none⟩)] W _
  refine Fw.calls Try.func73 rfl Try.ntmps73 rfl ?_
  refine Fw.seq fun _ hK1 => ?_
  refine Fw.seq fun _ hK2 => ?_
  refine Fw.region ?_
  refine Fw.ld sc3 rfl (hv) rfl ?_
  refine Fw.s (Fw.Val.F (Fw.val_bin rfl rfl Fw.b_lss) (by omega)) rfl ?_
  refine Fw.s (Fw.val_move rfl) rfl ?_
  refine Fw.gT (d := 8) rfl rfl ?_
  refine Fw.ld sc3 rfl (hv) rfl ?_
  refine Fw.gT (d := 8) rfl rfl ?_
  refine Fw.ld sc105 rfl (hl) rfl ?_
  refine Fw.gT (d := 8) rfl rfl ?_
  refine Fw.s (Fw.val_len Try.underlying105 rfl) rfl ?_
  refine Fw.gT (d := 8) rfl rfl ?_
  refine Fw.s (Fw.Val.F (Fw.val_bin rfl rfl Fw.b_geq) (by omega)) rfl ?_
  refine Fw.s (Fw.val_pickF rfl rfl) rfl ?_
  refine Fw.nil ?_
  refine hK2 _ _ (Fw.FC.sub (f' := [(13, _), (0, _), (1, _), (2, _)]) (.cons rfl (.cons rfl (.cons rfl (.cons rfl .nil)))) ?_)
  refine Fw.condF rfl ?_
  refine Fw.skip ?_
  refine hK1 _ _ ?_
  refine Fw.seq fun _ hK3 => ?_
  obtain ⟨ad, b_, o_, hA, hadd, HE⟩ : ∃ ad b o, Ao = some ad ∧ ad.add (v * 1) = ⟨b, o, none⟩ ∧ w₀.cell? ⟨b, o, none⟩ = some (.slice A xs.length c) := by
    have := Fw.rdAtM (c := id) (l := svs) (by simpa using hr) v hsn
    simpa [hsv] using this
  refine Fw.region ?_
  refine Fw.ld sc105 rfl (hl) rfl ?_
  refine Fw.ld sc3 rfl (hv) rfl ?_
  refine Fw.s (Fw.val_indexR Try.underlying105 sz47 rfl hA rfl rfl hvn hadd) rfl ?_
  refine Fw.ld sc47 rfl (((HB.cell (World.block_lt_of_cell? _ _ HE)).trans HE)) rfl ?_
  refine Fw.s (Fw.val_len Try.underlying47 rfl) rfl ?_
  refine Fw.s (Fw.val_move rfl) rfl ?_
  refine Fw.nil ?_
  refine hK3 _ _ ?_
  refine Fw.block ?_
  have HJ : J (xs.take 0) W := h0
  clear h0
  refine Fw.loop (fun m_ f_ W_ => ∃ (k : Nat), m_ = xs.length - k ∧ k ≤ xs.length ∧ J (xs.take k) W_ ∧ Below (w₀.heap.size) w₀ W_ ∧ f_ = [(19, .int .i64 k), (18, .int .i64 xs.length), (17, .slice A xs.length c), (0, .func (.yield l) #[] #[])]) ⟨_, _, ⟨0, rfl, Nat.zero_le _, HJ, HB, rfl⟩, (.cons rfl (.cons rfl (.cons rfl (.cons rfl .nil))))⟩ ?_
  clear HJ HB
  rintro m5_ _ w1 ⟨k, hm5_, hkn, HJ, HB, rfl⟩
  refine Fw.seq fun _ hK6 => ?_
  refine Fw.region ?_
  refine Fw.s2 (Fw.val_bin rfl rfl Fw.b_lss) rfl ?_ ?_
  rintro hlt
  refine Fw.nil ?_
  refine hK6 _ _ ?_
  refine Fw.seq fun _ hK8 => ?_
  refine Fw.condT rfl ?_
  refine Fw.skip ?_
  refine hK8 _ _ ?_
  refine Fw.seq fun _ hK9 => ?_
  refine Fw.block ?_
  refine Fw.seq fun _ hK10 => ?_
  have hk : k < xs.length := by omega
  refine Fw.region ?_
  obtain ⟨ad2, b2, o2, hA2, hadd2, HX⟩ := Fw.rdAtM hx k hk
  refine Fw.s (Fw.val_indexR Try.underlying47 sz3 rfl hA2 rfl rfl hk hadd2) rfl ?_
  refine Fw.ld sc3 rfl (((HB.cell (World.block_lt_of_cell? _ _ HX)).trans HX)) rfl ?_
  refine Fw.s (Fw.val_assign rfl) rfl ?_
  refine Fw.nil ?_
  refine hK10 _ _ ?_
  refine Fw.seq fun _ hK12 => ?_
  have hst : xs.take k ++ [xs[k]] = xs.take (k + 1) := (List.take_succ_eq_append_getElem hk).symm
  have hNL : ∀ {Q : Exit → Act → World → Prop}, (∀ a w, ¬ Q .outgrown a w) → Fw.NL Q := fun h => h
  have hy := hY (xs.take k) xs[k] w1 HJ (by rw [List.length_take]; omega)
  rw [hst] at hy
  refine Fw.regionI 1 (Fw.sI (Fw.val_move rfl) rfl (Fw.sI (Fw.val_move rfl) rfl (Fw.yieldI rfl rfl rfl hy ?_)))
  rintro e_ W3_ (⟨rfl, HJ, hk3⟩ | ⟨rfl, HJ⟩)
  refine ⟨_, rfl, Fw.FI.of (fun _ _ h_ => by first | exact h_.elim | (obtain ⟨⟨_, h_⟩, _⟩ := h_; cases h_)) ?_⟩
  replace HB := HB.trans hk3
  refine Fw.s (Fw.val_not rfl) rfl ?_
  refine Fw.nil ?_
  refine hK12 _ _ (Fw.FC.sub (f' := [(26, _), (19, _), (18, _), (17, _), (0, _)]) (.cons rfl (.cons rfl (.cons rfl (.cons rfl (.cons rfl .nil))))) ?_)
  refine Fw.condF rfl ?_
  refine Fw.skip ?_
  refine Fw.X_blockN ?_
  refine hK9 _ _ ?_
  refine Fw.region ?_
  refine Fw.s (Fw.val_bin rfl rfl (Fw.b_add (Fw.i64_ok (by omega)))) rfl ?_
  refine Fw.s (Fw.val_move rfl) rfl ?_
  refine Fw.nil ?_
  refine Fw.roundEnd _ _ (by omega) ⟨k + 1, rfl, by omega, HJ, HB, rfl⟩ (.cons rfl (.cons rfl (.cons rfl (.cons rfl .nil))))
  refine ⟨_, rfl, Fw.FI.of (fun _ _ h_ => by first | exact h_.elim | (obtain ⟨⟨_, h_⟩, _⟩ := h_; cases h_)) ?_⟩
  refine Fw.s (Fw.val_not rfl) rfl ?_
  refine Fw.nil ?_
  refine hK12 _ _ (Fw.FC.sub (f' := [(26, _), (19, _), (18, _), (17, _), (0, _)]) (.cons rfl (.cons rfl (.cons rfl (.cons rfl (.cons rfl .nil))))) ?_)
  refine Fw.condT rfl ?_
  refine Fw.ret ?_
  refine Fw.X_blockR ?_
  refine Fw.X_ret ?_
  refine Fw.X_ret ?_
  refine Fw.X_blockR ?_
  refine Fw.ret_ [] [] Try.results73 .nil ?_
  first
    | exact ⟨⟨_, rfl⟩, .inr ⟨xs.take (k + 1), ⟨xs.drop (k + 1), List.take_append_drop _ _⟩, HJ⟩⟩
    | exact ⟨⟨_, rfl⟩, .inl ⟨xs, rfl, by rwa [List.take_of_length_le (by omega)] at HJ⟩⟩
  rintro hlt
  refine Fw.nil ?_
  refine hK6 _ _ ?_
  refine Fw.seq fun _ hK13 => ?_
  refine Fw.condF rfl ?_
  refine Fw.exit ?_
  refine Fw.X_exit ?_
  refine Fw.X_exit ?_
  refine Fw.X_block ?_
  refine Fw.end_ [] [] Try.results73 .nil ?_
  first
    | exact ⟨⟨_, rfl⟩, .inr ⟨xs.take (k + 1), ⟨xs.drop (k + 1), List.take_append_drop _ _⟩, HJ⟩⟩
    | exact ⟨⟨_, rfl⟩, .inl ⟨xs, rfl, by rwa [List.take_of_length_le (by omega)] at HJ⟩⟩

end Go.Proofs.Ytodhpooddmeghaa
