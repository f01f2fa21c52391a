/- Layer 28: the fence: its walks. -/
import Derived.Test.YtodhpooddmeghaaOr
import Derived.Test.YtodhpooddmeghaaGi
import Derived.Test.YtodhpooddmeghaaT09
namespace Go.Proofs.Ytodhpooddmeghaa
set_option linter.unusedSimpArgs false
set_option linter.unusedVariables false
open Go.RowKit

namespace Or
/-- a fence -/
structure F where
  u : Int
  o : O
  a : Bool
def zero : O := ⟨0, 0, 0, 0, 0⟩
def new (u : Int) : F := ⟨u, zero, false⟩
def refused (f : F) (o : O) : Bool := !valid o || o.u != f.u
def stale (f : F) (o : O) : Bool := f.a && decide (o.e ≤ f.o.e)
def acc (f : F) (o : O) : F := if refused f o || stale f o then f else ⟨f.u, o, true⟩
def accB (f : F) (o : O) : Bool := !(refused f o || stale f o)
def accE (f : F) (o : O) : Int := if refused f o then 1 else 0
def tk (f : F) (o : O) : F := if refused f o || decide (o.e ≤ f.o.e) then f else ⟨f.u, o, true⟩
def tkB (f : F) (o : O) : Bool := !(refused f o || decide (o.e ≤ f.o.e))
/-- a fence that has accepted nothing holds no order; what it holds is valid -/
def Inv (f : F) : Prop := (f.a = false → f.o = zero) ∧ (f.a = true → valid f.o = true)
theorem valid_e {o : O} (h : valid o = true) : 1 ≤ o.e := by
  unfold valid rg at h; simp at h; omega
theorem tk_acc {f : F} (h : Inv f) (o : O) : tk f o = acc f o ∧ tkB f o = accB f o := by
  have e : (refused f o || decide (o.e ≤ f.o.e)) = (refused f o || stale f o) := by
    cases hr : refused f o with
    | true => rfl
    | false =>
      unfold refused at hr
      simp at hr
      have h1 := valid_e hr.1
      unfold stale
      cases ha : f.a with
      | true => rfl
      | false =>
        have := h.1 ha
        rw [this]
        show decide (o.e ≤ 0) = false
        exact decide_eq_false (by omega)
  unfold tk tkB acc accB
  rw [e]; exact ⟨rfl, rfl⟩
theorem Inv.acc {f : F} (h : Inv f) (o : O) : Inv (acc f o) := by
  unfold Or.acc
  split
  exact h
  rename_i hr
  refine ⟨fun h => (by cases h), fun _ => ?_⟩
  unfold refused at hr
  simp at hr
  exact hr.1.1
theorem Inv.new (u : Int) : Inv (new u) := ⟨fun _ => rfl, fun h => by cases h⟩
theorem Inv.e {f : F} (h : Inv f) : decide (0 < f.o.e) = f.a := by
  cases ha : f.a with
  | false => rw [h.1 ha]; rfl
  | true => have := valid_e (h.2 ha); exact decide_eq_true (by omega)
theorem acc1 {f : F} {o : O} (h : valid o = false) : accE f o = 1 ∧ accB f o = false ∧ acc f o = f := by unfold accE accB acc refused; rw [h]; exact ⟨rfl, rfl, rfl⟩
theorem acc2 {f : F} {o : O} (h : o.u ≠ f.u) : accE f o = 1 ∧ accB f o = false ∧ acc f o = f := by
  have e : refused f o = true := by unfold refused; rw [show (o.u != f.u) = true from by simpa using h, Bool.or_true]
  unfold accE accB acc; rw [e]; exact ⟨rfl, rfl, rfl⟩
theorem nref {f : F} {o : O} (h : valid o = true) (hu : o.u = f.u) : refused f o = false := by unfold refused; rw [h, hu]; simp
theorem acc3 {f : F} {o : O} (h : valid o = true) (hu : o.u = f.u) (ha : f.a = true) (he : o.e ≤ f.o.e) : accE f o = 0 ∧ accB f o = false ∧ acc f o = f := by
  have e : stale f o = true := by unfold stale; rw [ha]; exact decide_eq_true he
  unfold accE accB acc; rw [nref h hu, e]; exact ⟨rfl, rfl, rfl⟩
theorem acc4 {f : F} {o : O} (h : valid o = true) (hu : o.u = f.u) (he : f.a = false ∨ ¬ o.e ≤ f.o.e) : accE f o = 0 ∧ accB f o = true ∧ acc f o = ⟨f.u, o, true⟩ := by
  have e : stale f o = false := by
    unfold stale
    rcases he with he | he
    rw [he]; rfl
    rw [decide_eq_false he, Bool.and_false]
  unfold accE accB acc; rw [nref h hu, e]; exact ⟨rfl, rfl, rfl⟩
theorem tk1 {f : F} {o : O} (h : valid o = false ∨ o.u ≠ f.u) : accE f o = 1 ∧ tkB f o = false ∧ tk f o = f := by
  have e : refused f o = true := by
    unfold refused
    rcases h with h | h
    rw [h]; rfl
    rw [show (o.u != f.u) = true from by simpa using h, Bool.or_true]
  unfold accE tkB tk; rw [e]; exact ⟨rfl, rfl, rfl⟩
theorem tk2 {f : F} {o : O} (h : valid o = true) (hu : o.u = f.u) (he : o.e ≤ f.o.e) : accE f o = 0 ∧ tkB f o = false ∧ tk f o = f := by
  unfold accE tkB tk; rw [nref h hu, decide_eq_true he]; exact ⟨rfl, rfl, rfl⟩
theorem tk3 {f : F} {o : O} (h : valid o = true) (hu : o.u = f.u) (he : ¬ o.e ≤ f.o.e) : accE f o = 0 ∧ tkB f o = true ∧ tk f o = ⟨f.u, o, true⟩ := by
  unfold accE tkB tk; rw [nref h hu, decide_eq_false he]; exact ⟨rfl, rfl, rfl⟩
/-- an order's numbers, and a fence's cells -/
def O.cells (o : O) : List Value := [.int .i64 o.u, .int .i64 o.e, .int .i64 o.k, .int .i64 o.i, .int .i64 o.n]
end Or
/-- a *order.Fence at block p -/
def FenceAt (w : World) (p : Nat) (f : Or.F) : Prop :=
  Blk w p 109 #[.int .i64 f.u, .int .i64 f.o.u, .int .i64 f.o.e, .int .i64 f.o.k, .int .i64 f.o.i, .int .i64 f.o.n, .bool f.a]
theorem FenceAt.low {w w' : World} {p : Nat} {f : Or.F} (h : FenceAt w p f) (hb : Below w.heap.size w w') : FenceAt w' p f := Blk.low h hb

set_option maxRecDepth 100000 in
set_option maxHeartbeats 1000000 in
theorem newFence_any (n : Int) (w : World) (h : Or.vu n = true) : Calls Try.prog 30 #[.int .i64 n] w fun e_ w' => ∃ g, e_ = .returned (.tuple #[.pointer (some ⟨g, 0, none⟩), .int .i64 0]) ∧ w.heap.size ≤ g ∧ FenceAt w' g (Or.new n) ∧ Below w.heap.size w w' := by
  refine Fw.calls Try.func30 rfl Try.ntmps30 rfl ?_
  have HB := Below.refl (w.heap.size) w
  refine Fw.seq fun _ hK1 => ?_
  refine Fw.region ?_
  refine Fw.s (Fw.val_assign rfl) rfl ?_
  refine Fw.s (Fw.val_assign rfl) rfl ?_
  refine Fw.nil ?_
  refine hK1 _ _ ?_
  refine Fw.seq fun _ hK2 => ?_
  refine Fw.seq fun _ hK3 => ?_
  refine Fw.region ?_
  refine Fw.s (Fw.val_move rfl) rfl ?_
  refine Fw.call cf52 rfl rfl (vu_any n _) ?_
  rintro e_ _ ⟨rfl, rfl⟩
  refine ⟨_, rfl, ?_⟩
  refine Fw.bT (by exact h) ?_
  refine Fw.s (Fw.val_not rfl) rfl ?_
  refine Fw.nil ?_
  refine hK3 _ _ ?_
  refine Fw.condF rfl ?_
  refine Fw.skip ?_
  refine hK2 _ _ ?_
  refine Fw.seq fun _ hK4 => ?_
  refine Fw.region ?_
  refine Fw.s (Fw.val_move rfl) rfl ?_
  refine Fw.s (Fw.val_build (ps := [(0, _)]) rfl (bu109_0 _)) rfl ?_
  refine Fw.box rfl rfl ?_
  intro w1 gf egf Hf hb
  have lgf : w.heap.size ≤ gf := by have := HB.size; omega
  replace HB := HB.trans (hb.mono HB.size)
  clear hb
  clear egf
  refine Fw.s (Fw.val_assign rfl) rfl ?_
  refine Fw.s (Fw.val_assign rfl) rfl ?_
  refine Fw.nil ?_
  refine hK4 _ _ (Fw.FC.sub (f' := [(3, _), (2, _)]) (.cons rfl (.cons rfl .nil)) ?_)
  refine Fw.ret ?_
  refine Fw.ret_ [.tmp 2, .tmp 3] [_, _] Try.results30 (.tmp rfl (.tmp rfl .nil)) ?_
  exact ⟨gf, rfl, lgf, Hf, HB⟩

set_option maxRecDepth 100000 in
set_option maxHeartbeats 1000000 in
theorem newFence_bad (n : Int) (w : World) (h : Or.vu n = false) : Calls Try.prog 30 #[.int .i64 n] w fun e_ w' => e_ = .returned (.tuple #[.pointer none, .int .i64 1]) ∧ Below w.heap.size w w' := by
  refine Fw.calls Try.func30 rfl Try.ntmps30 rfl ?_
  have HB := Below.refl (w.heap.size) w
  refine Fw.seq fun _ hK1 => ?_
  refine Fw.region ?_
  refine Fw.s (Fw.val_assign rfl) rfl ?_
  refine Fw.s (Fw.val_assign rfl) rfl ?_
  refine Fw.nil ?_
  refine hK1 _ _ ?_
  refine Fw.seq fun _ hK2 => ?_
  refine Fw.seq fun _ hK3 => ?_
  refine Fw.region ?_
  refine Fw.s (Fw.val_move rfl) rfl ?_
  refine Fw.call cf52 rfl rfl (vu_any n _) ?_
  rintro e_ _ ⟨rfl, rfl⟩
  refine ⟨_, rfl, ?_⟩
  refine Fw.bF (by exact h) ?_
  refine Fw.s (Fw.val_not rfl) rfl ?_
  refine Fw.nil ?_
  refine hK3 _ _ ?_
  refine Fw.condT rfl ?_
  refine Fw.seq fun _ hK4 => ?_
  refine Fw.region ?_
  refine Fw.s (Fw.val_assign rfl) rfl ?_
  refine Fw.s (Fw.val_assign rfl) rfl ?_
  refine Fw.nil ?_
  refine hK4 _ _ ?_
  refine Fw.ret ?_
  refine Fw.X_ret ?_
  refine Fw.ret_ [.tmp 2, .tmp 3] [_, _] Try.results30 (.tmp rfl (.tmp rfl .nil)) ?_
  exact ⟨rfl, HB⟩

set_option maxRecDepth 100000 in
set_option maxHeartbeats 1000000 in
theorem accept_any (p : Nat) (f : Or.F) (o : Or.O) (w : World) (h : FenceAt w p f) : Calls Try.prog 45 #[.pointer (some ⟨p, 0, none⟩), .agg #[.int .i64 o.u, .int .i64 o.e, .int .i64 o.k, .int .i64 o.i, .int .i64 o.n]] w fun e_ w' => e_ = .returned (.tuple #[.bool (Or.accB f o), .int .i64 (Or.accE f o)]) ∧ FenceAt w' p (Or.acc f o) ∧ Chg (· = p) w w' := by
  have HF : Blk w p 109 #[.int .i64 f.u, .int .i64 f.o.u, .int .i64 f.o.e, .int .i64 f.o.k, .int .i64 f.o.i, .int .i64 f.o.n, .bool f.a] := h
  have hpl := HF.lt
  refine Fw.calls Try.func45 rfl Try.ntmps45 rfl ?_
  have HC := Chg.refl (· = p) w
  refine Fw.seq fun _ hK1 => ?_
  refine Fw.region ?_
  refine Fw.box rfl rfl ?_
  intro w1 gx egx Hx hb
  have n_p_gx : p < gx := by have := HF.lt; omega
  have lgx : w.heap.size ≤ gx := by have := HC.size; omega
  replace HF := HF.low hb
  replace HC := HC.trans (Chg.of_below hb (· = p)) (fun _ _ h => h)
  clear hb
  clear egx
  refine Fw.s (Fw.val_assign rfl) rfl ?_
  refine Fw.s (Fw.val_assign rfl) rfl ?_
  refine Fw.nil ?_
  refine hK1 _ _ ?_
  refine Fw.seq fun _ hK2 => ?_
  refine Fw.seq fun _ hK3 => ?_
  refine Fw.regionQ (by kernel_rfl) (by kernel_rfl) ?_
  refine Fw.ldAQ ag50 rfl (Fw.rdBlk Hx) rfl rfl ?_
  refine Fw.callQ cf38 rfl rfl (fun w_ hb_ => valid_any o _) (fun _ _ _ h => h) ?_
  refine Fw.b2Q ?_ ?_
  rintro hv
  refine Fw.q (Fw.val_not rfl) rfl ?_
  refine Fw.q (Fw.val_move rfl) rfl ?_
  refine Fw.gTQ (d := 9) rfl rfl ?_
  refine Fw.q (Fw.val_fieldAddr fl50_0 rfl rfl) rfl ?_
  refine Fw.gTQ (d := 9) rfl rfl ?_
  refine Fw.ldQ sc3 rfl (Hx.cell 0) rfl ?_
  refine Fw.gTQ (d := 9) rfl rfl ?_
  refine Fw.q (Fw.val_move rfl) rfl ?_
  refine Fw.gTQ (d := 9) rfl rfl ?_
  refine Fw.q (Fw.val_nil rfl) rfl ?_
  refine Fw.gTQ (d := 9) rfl rfl ?_
  refine Fw.q (Fw.val_fieldAddr fl109_0 rfl rfl) rfl ?_
  refine Fw.gTQ (d := 9) rfl rfl ?_
  refine Fw.ldQ sc3 rfl (HF.cell 0) rfl ?_
  refine Fw.gTQ (d := 9) rfl rfl ?_
  refine Fw.q2 (Fw.val_bin rfl rfl Fw.b_neq) rfl ?_ ?_
  rintro hu
  refine Fw.q (Fw.val_pickF rfl rfl) rfl ?_
  refine Fw.nilQ ?_
  intro w2 hb
  replace HF := HF.low hb
  replace Hx := Hx.low hb
  replace HC := HC.trans (Chg.of_below hb (· = p)) (fun _ _ h => h)
  clear hb
  refine hK3 _ _ (Fw.FC.sub (f' := [(17, _), (3, _), (0, _)]) (.cons rfl (.cons rfl (.cons rfl .nil))) ?_)
  refine Fw.condT rfl ?_
  refine Fw.seq fun _ hK5 => ?_
  refine Fw.region ?_
  refine Fw.s (Fw.val_assign rfl) rfl ?_
  refine Fw.s (Fw.val_assign rfl) rfl ?_
  refine Fw.nil ?_
  refine hK5 _ _ ?_
  refine Fw.ret ?_
  refine Fw.X_ret ?_
  refine Fw.ret_ [.tmp 4, .tmp 5] [_, _] Try.results45 (.tmp rfl (.tmp rfl .nil)) ?_
  obtain ⟨e1, e2, e3⟩ := Or.acc2 hu
  rw [e1, e2, e3]
  exact ⟨rfl, HF, HC⟩
  rintro hu
  refine Fw.q (Fw.val_pickF rfl rfl) rfl ?_
  refine Fw.nilQ ?_
  intro w3 hb
  replace HF := HF.low hb
  replace Hx := Hx.low hb
  replace HC := HC.trans (Chg.of_below hb (· = p)) (fun _ _ h => h)
  clear hb
  refine hK3 _ _ (Fw.FC.sub (f' := [(17, _), (3, _), (0, _)]) (.cons rfl (.cons rfl (.cons rfl .nil))) ?_)
  refine Fw.condF rfl ?_
  refine Fw.skip ?_
  refine hK2 _ _ ?_
  refine Fw.seq fun _ hK6 => ?_
  refine Fw.seq fun _ hK7 => ?_
  refine Fw.regionQ (by kernel_rfl) (by kernel_rfl) ?_
  refine Fw.q (Fw.val_move rfl) rfl ?_
  refine Fw.q (Fw.val_nil rfl) rfl ?_
  refine Fw.q (Fw.val_fieldAddr fl109_2 rfl rfl) rfl ?_
  refine Fw.ldQ sc4 rfl (HF.cell 6) rfl ?_
  refine Fw.b2Q ?_ ?_
  rintro ha
  refine Fw.q (Fw.val_move rfl) rfl ?_
  refine Fw.gTQ (d := 22) rfl rfl ?_
  refine Fw.q (Fw.val_fieldAddr fl50_1 rfl rfl) rfl ?_
  refine Fw.gTQ (d := 22) rfl rfl ?_
  refine Fw.ldQ sc2 rfl (Hx.cell 1) rfl ?_
  refine Fw.gTQ (d := 22) rfl rfl ?_
  refine Fw.q (Fw.val_move rfl) rfl ?_
  refine Fw.gTQ (d := 22) rfl rfl ?_
  refine Fw.q (Fw.val_nil rfl) rfl ?_
  refine Fw.gTQ (d := 22) rfl rfl ?_
  refine Fw.q (Fw.val_fieldAddr fl109_1 rfl rfl) rfl ?_
  refine Fw.gTQ (d := 22) rfl rfl ?_
  refine Fw.q (Fw.val_fieldAddr fl50_1 rfl rfl) rfl ?_
  refine Fw.gTQ (d := 22) rfl rfl ?_
  refine Fw.ldQ sc2 rfl (HF.cell 2) rfl ?_
  refine Fw.gTQ (d := 22) rfl rfl ?_
  refine Fw.q2 (Fw.val_bin rfl rfl Fw.b_leq) rfl ?_ ?_
  rintro he
  refine Fw.q (Fw.val_pickT rfl rfl) rfl ?_
  refine Fw.nilQ ?_
  intro w4 hb
  replace HF := HF.low hb
  replace Hx := Hx.low hb
  replace HC := HC.trans (Chg.of_below hb (· = p)) (fun _ _ h => h)
  clear hb
  refine hK7 _ _ (Fw.FC.sub (f' := [(31, _), (3, _), (0, _)]) (.cons rfl (.cons rfl (.cons rfl .nil))) ?_)
  refine Fw.condT rfl ?_
  refine Fw.seq fun _ hK9 => ?_
  refine Fw.region ?_
  refine Fw.s (Fw.val_assign rfl) rfl ?_
  refine Fw.s (Fw.val_assign rfl) rfl ?_
  refine Fw.nil ?_
  refine hK9 _ _ ?_
  refine Fw.ret ?_
  refine Fw.X_ret ?_
  refine Fw.ret_ [.tmp 4, .tmp 5] [_, _] Try.results45 (.tmp rfl (.tmp rfl .nil)) ?_
  obtain ⟨e1, e2, e3⟩ := Or.acc3 hv (Classical.byContradiction hu) ha he
  rw [e1, e2, e3]
  exact ⟨rfl, HF, HC⟩
  rintro he
  refine Fw.q (Fw.val_pickT rfl rfl) rfl ?_
  refine Fw.nilQ ?_
  intro w5 hb
  replace HF := HF.low hb
  replace Hx := Hx.low hb
  replace HC := HC.trans (Chg.of_below hb (· = p)) (fun _ _ h => h)
  clear hb
  refine hK7 _ _ (Fw.FC.sub (f' := [(31, _), (3, _), (0, _)]) (.cons rfl (.cons rfl (.cons rfl .nil))) ?_)
  refine Fw.condF rfl ?_
  refine Fw.skip ?_
  refine hK6 _ _ ?_
  refine Fw.seq fun _ hK10 => ?_
  refine Fw.region ?_
  refine Fw.s (Fw.val_move rfl) rfl ?_
  refine Fw.s (Fw.val_move rfl) rfl ?_
  refine Fw.ldA ag50 rfl (Fw.rdBlk Hx) rfl rfl ?_
  refine Fw.s (Fw.val_nil rfl) rfl ?_
  refine Fw.s (Fw.val_fieldAddr fl109_1 rfl rfl) rfl ?_
  refine Fw.storeP sz50 rfl rfl HF rfl rfl (by exact Fw.oneCells rfl) ?_
  intro w6 N_ hc
  replace Hx := Hx.chg hc (by omega)
  replace HC := HC.trans hc (fun k hk_ e => by first | exact e | (left; exact e) | (right; exact e) | (exfalso; omega))
  clear hc
  clear HF
  have HF := N_
  clear N_
  replace HF : Blk w6 p 109 #[.int .i64 f.u, .int .i64 o.u, .int .i64 o.e, .int .i64 o.k, .int .i64 o.i, .int .i64 o.n, .bool f.a] := HF
  refine Fw.s (Fw.val_nil rfl) rfl ?_
  refine Fw.s (Fw.val_fieldAddr fl109_2 rfl rfl) rfl ?_
  refine Fw.store sz4 rfl rfl HF rfl rfl rfl ?_
  intro w7 N_ hc
  replace Hx := Hx.chg hc (by omega)
  replace HC := HC.trans hc (fun k hk_ e => by first | exact e | (left; exact e) | (right; exact e) | (exfalso; omega))
  clear hc
  clear HF
  have HF := N_
  clear N_
  replace HF : Blk w7 p 109 #[.int .i64 f.u, .int .i64 o.u, .int .i64 o.e, .int .i64 o.k, .int .i64 o.i, .int .i64 o.n, .bool true] := HF
  refine Fw.nil ?_
  refine hK10 _ _ (Fw.FC.sub (f' := []) .nil ?_)
  refine Fw.seq fun _ hK11 => ?_
  refine Fw.region ?_
  refine Fw.s (Fw.val_assign rfl) rfl ?_
  refine Fw.s (Fw.val_assign rfl) rfl ?_
  refine Fw.nil ?_
  refine hK11 _ _ ?_
  refine Fw.ret ?_
  refine Fw.ret_ [.tmp 4, .tmp 5] [_, _] Try.results45 (.tmp rfl (.tmp rfl .nil)) ?_
  obtain ⟨e1, e2, e3⟩ := Or.acc4 hv (Classical.byContradiction hu) (.inr he)
  rw [e1, e2, e3]
  exact ⟨rfl, HF, HC⟩
  rintro ha
  refine Fw.q (Fw.val_move rfl) rfl ?_
  refine Fw.gFQ (d := 22) rfl rfl rfl rfl ?_
  refine Fw.gFQ (d := 22) rfl rfl rfl rfl ?_
  refine Fw.gFQ (d := 22) rfl rfl rfl rfl ?_
  refine Fw.gFQ (d := 22) rfl rfl rfl rfl ?_
  refine Fw.gFQ (d := 22) rfl rfl rfl rfl ?_
  refine Fw.gFQ (d := 22) rfl rfl rfl rfl ?_
  refine Fw.gFQ (d := 22) rfl rfl rfl rfl ?_
  refine Fw.gFQ (d := 22) rfl rfl rfl rfl ?_
  refine Fw.q (Fw.val_pickF rfl rfl) rfl ?_
  refine Fw.nilQ ?_
  intro w8 hb
  replace HF := HF.low hb
  replace Hx := Hx.low hb
  replace HC := HC.trans (Chg.of_below hb (· = p)) (fun _ _ h => h)
  clear hb
  refine hK7 _ _ (Fw.FC.sub (f' := [(31, _), (3, _), (0, _)]) (.cons rfl (.cons rfl (.cons rfl .nil))) ?_)
  refine Fw.condF rfl ?_
  refine Fw.skip ?_
  refine hK6 _ _ ?_
  refine Fw.seq fun _ hK12 => ?_
  refine Fw.region ?_
  refine Fw.s (Fw.val_move rfl) rfl ?_
  refine Fw.s (Fw.val_move rfl) rfl ?_
  refine Fw.ldA ag50 rfl (Fw.rdBlk Hx) rfl rfl ?_
  refine Fw.s (Fw.val_nil rfl) rfl ?_
  refine Fw.s (Fw.val_fieldAddr fl109_1 rfl rfl) rfl ?_
  refine Fw.storeP sz50 rfl rfl HF rfl rfl (by exact Fw.oneCells rfl) ?_
  intro w9 N_ hc
  replace Hx := Hx.chg hc (by omega)
  replace HC := HC.trans hc (fun k hk_ e => by first | exact e | (left; exact e) | (right; exact e) | (exfalso; omega))
  clear hc
  clear HF
  have HF := N_
  clear N_
  replace HF : Blk w9 p 109 #[.int .i64 f.u, .int .i64 o.u, .int .i64 o.e, .int .i64 o.k, .int .i64 o.i, .int .i64 o.n, .bool f.a] := HF
  refine Fw.s (Fw.val_nil rfl) rfl ?_
  refine Fw.s (Fw.val_fieldAddr fl109_2 rfl rfl) rfl ?_
  refine Fw.store sz4 rfl rfl HF rfl rfl rfl ?_
  intro w10 N_ hc
  replace Hx := Hx.chg hc (by omega)
  replace HC := HC.trans hc (fun k hk_ e => by first | exact e | (left; exact e) | (right; exact e) | (exfalso; omega))
  clear hc
  clear HF
  have HF := N_
  clear N_
  replace HF : Blk w10 p 109 #[.int .i64 f.u, .int .i64 o.u, .int .i64 o.e, .int .i64 o.k, .int .i64 o.i, .int .i64 o.n, .bool true] := HF
  refine Fw.nil ?_
  refine hK12 _ _ (Fw.FC.sub (f' := []) .nil ?_)
  refine Fw.seq fun _ hK13 => ?_
  refine Fw.region ?_
  refine Fw.s (Fw.val_assign rfl) rfl ?_
  refine Fw.s (Fw.val_assign rfl) rfl ?_
  refine Fw.nil ?_
  refine hK13 _ _ ?_
  refine Fw.ret ?_
  refine Fw.ret_ [.tmp 4, .tmp 5] [_, _] Try.results45 (.tmp rfl (.tmp rfl .nil)) ?_
  obtain ⟨e1, e2, e3⟩ := Or.acc4 hv (Classical.byContradiction hu) (.inl ha)
  rw [e1, e2, e3]
  exact ⟨rfl, HF, HC⟩
  rintro hv
  refine Fw.q (Fw.val_not rfl) rfl ?_
  refine Fw.q (Fw.val_move rfl) rfl ?_
  refine Fw.gFQ (d := 9) rfl rfl rfl rfl ?_
  refine Fw.gFQ (d := 9) rfl rfl rfl rfl ?_
  refine Fw.gFQ (d := 9) rfl rfl rfl rfl ?_
  refine Fw.gFQ (d := 9) rfl rfl rfl rfl ?_
  refine Fw.gFQ (d := 9) rfl rfl rfl rfl ?_
  refine Fw.gFQ (d := 9) rfl rfl rfl rfl ?_
  refine Fw.gFQ (d := 9) rfl rfl rfl rfl ?_
  refine Fw.q (Fw.val_pickT rfl rfl) rfl ?_
  refine Fw.nilQ ?_
  intro w11 hb
  replace HF := HF.low hb
  replace Hx := Hx.low hb
  replace HC := HC.trans (Chg.of_below hb (· = p)) (fun _ _ h => h)
  clear hb
  refine hK3 _ _ (Fw.FC.sub (f' := [(17, _), (3, _), (0, _)]) (.cons rfl (.cons rfl (.cons rfl .nil))) ?_)
  refine Fw.condT rfl ?_
  refine Fw.seq fun _ hK14 => ?_
  refine Fw.region ?_
  refine Fw.s (Fw.val_assign rfl) rfl ?_
  refine Fw.s (Fw.val_assign rfl) rfl ?_
  refine Fw.nil ?_
  refine hK14 _ _ ?_
  refine Fw.ret ?_
  refine Fw.X_ret ?_
  refine Fw.ret_ [.tmp 4, .tmp 5] [_, _] Try.results45 (.tmp rfl (.tmp rfl .nil)) ?_
  obtain ⟨e1, e2, e3⟩ := Or.acc1 hv
  rw [e1, e2, e3]
  exact ⟨rfl, HF, HC⟩

set_option maxRecDepth 100000 in
set_option maxHeartbeats 1000000 in
theorem latest_any (p : Nat) (f : Or.F) (w : World) (h : FenceAt w p f) : Calls Try.prog 61 #[.pointer (some ⟨p, 0, none⟩)] w fun e_ w' => e_ = .returned (.tuple #[.agg f.o.cells.toArray, .bool f.a]) ∧ Below w.heap.size w w' := by
  have HF : Blk w p 109 #[.int .i64 f.u, .int .i64 f.o.u, .int .i64 f.o.e, .int .i64 f.o.k, .int .i64 f.o.i, .int .i64 f.o.n, .bool f.a] := h
  refine Fw.calls Try.func61 rfl Try.ntmps61 rfl ?_
  have HB := Below.refl (w.heap.size) w
  refine Fw.seq fun _ hK1 => ?_
  refine Fw.region ?_
  refine Fw.alloc ze50 rfl ?_
  intro w1 gx egx Hx hb
  have n_p_gx : p < gx := by have := HF.lt; omega
  have lgx : w.heap.size ≤ gx := by have := HB.size; omega
  replace HF := HF.low hb
  replace HB := HB.trans (hb.mono HB.size)
  clear hb
  clear egx
  refine Fw.s (Fw.val_assign rfl) rfl ?_
  refine Fw.nil ?_
  refine hK1 _ _ ?_
  refine Fw.seq fun _ hK2 => ?_
  refine Fw.regionHS (Chg (· = gx) w1) (by kernel_rfl) (Chg.of_below (Fw.drew_low w1) _) ?_
  have R_HF := HF
  have R_Hx := Hx
  have R_HB := HB
  intro w2 hb HS
  replace HF := HF.low hb
  replace Hx := Hx.low hb
  replace HB := HB.trans (hb.mono HB.size)
  clear hb
  refine Fw.hTake 0 rfl rfl (by kernel_rfl) (by kernel_rfl) (by kernel_rfl) (Fw.yV (Fw.val_move rfl)) rfl ?_
  refine Fw.hTake 1 rfl rfl (by kernel_rfl) (by kernel_rfl) (by kernel_rfl) (Fw.yV (Fw.val_nil rfl)) rfl ?_
  refine Fw.hTake 2 rfl rfl (by kernel_rfl) (by kernel_rfl) (by kernel_rfl) (Fw.yV (Fw.val_fieldAddr fl109_1 rfl rfl)) rfl ?_
  refine Fw.hTake 3 rfl rfl (by kernel_rfl) (by kernel_rfl) (by kernel_rfl) (Fw.yV (Fw.val_loadA ag50 rfl (fun _ h_ => Fw.rdPart (Fw.rdBlk (R_HF.chg h_ (by show ¬ p = gx; omega))) 1 5) rfl)) rfl ?_
  refine Fw.hTake 4 rfl rfl (by kernel_rfl) (by kernel_rfl) (by kernel_rfl) (Fw.yV (Fw.val_move rfl)) rfl ?_
  refine Fw.hTake 5 rfl rfl (by kernel_rfl) (by kernel_rfl) (by kernel_rfl) (Fw.yV (Fw.val_nil rfl)) rfl ?_
  refine Fw.hTake 6 rfl rfl (by kernel_rfl) (by kernel_rfl) (by kernel_rfl) (Fw.yV (Fw.val_fieldAddr fl109_2 rfl rfl)) rfl ?_
  refine Fw.hTake 7 rfl rfl (by kernel_rfl) (by kernel_rfl) (by kernel_rfl) (Fw.yV (Fw.hLdC sc4 rfl (R_HF.cell 6) (by show ¬ p = gx; omega))) rfl ?_
  refine Fw.hAll1 8 (by kernel_rfl) ?_
  refine Fw.hOp 8 rfl ?_
  refine Fw.storeW sz50 rfl rfl Hx rfl rfl (by exact Fw.oneCells rfl) ?_
  intro w3 N_ hc
  replace HF := HF.chg hc (by omega)
  replace HS := HS.trans hc (fun _ _ h => h)
  replace HB := HB.trans (hc.below (B := w.heap.size) (fun k e => by omega) HB.size)
  clear hc
  clear Hx
  have Hx := N_
  clear N_
  refine Fw.hNext HS ?_
  refine Fw.hTake 9 rfl rfl (by kernel_rfl) (by kernel_rfl) (by kernel_rfl) (Fw.yV (Fw.val_assign rfl)) rfl ?_
  refine Fw.hDone (by kernel_rfl) ?_
  refine hK2 _ _ (Fw.FC.sub (f' := [(3, _), (2, _)]) (.cons rfl (.cons rfl .nil)) ?_)
  refine Fw.ret ?_
  refine Fw.ret_ [.cell 2 50, .tmp 3] [_, _] Try.results61 (Fw.ResL.cellM rfl ag50 (Fw.rdBlk Hx) rfl (.tmp rfl .nil)) ?_
  exact ⟨rfl, HB⟩

end Go.Proofs.Ytodhpooddmeghaa
