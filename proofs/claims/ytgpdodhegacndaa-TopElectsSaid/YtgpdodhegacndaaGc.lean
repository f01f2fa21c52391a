/- The laws of the operations that turn memory; how a call begins and ends. No program is named here. -/
import Derived.Test.YtgpdodhegacndaaGb
namespace Go.Proofs.Ytgpdodhegacndaa
set_option linter.unusedSimpArgs false
set_option linter.unusedVariables false
open Go.RowKit
namespace Fw
variable {ds : List Deferred}
/-! ### how a call begins and ends -/
def frOf : Nat → List Value → Fr
  | _, [] => []
  | k, v :: l => (k, v) :: frOf (k + 1) l
theorem get_frOf : ∀ (l : List Value) (j k : Nat) (v : Value), get (frOf j l) k = some v → j ≤ k ∧ l[k - j]? = some v
  | [], _, _, _, h => by cases h
  | u :: l, j, k, v, h => by
    rw [frOf, get_cons] at h
    split at h
    · rename_i e; subst e; injection h with h; subst h; simp
    · rename_i e
      obtain ⟨h1, h2⟩ := get_frOf l (j + 1) k v h
      refine ⟨by omega, ?_⟩
      rw [show k - j = (k - (j + 1)) + 1 by omega]; simpa using h2
theorem calls {P : Program} {g : FuncId} {fn : Func} {c : Code} {n : Nat} {vs : List Value} {w : World} {R : Ending → World → Prop} (hf : P.funcs[g]? = some fn) (hb : fn.body = some c) (hn : fn.ntmps = n) (hl : Nat.ble vs.length n = true)
    (h : FC P (bodyPost P fn R) n [] c (frOf 0 vs) w) : Calls P g vs.toArray w R := by
  subst hn
  refine calls_of_wp hf hb (h _ ?_)
  have := Has.start (args := vs) (n := fn.ntmps) (by simpa using hl) (f := frOf 0 vs) (fun k v hk => by simpa using (get_frOf vs 0 k v hk).2)
  simpa using this
inductive ResL (P : Program) (f : Fr) (w : World) : List ResultVar → List Value → Prop
  | nil : ResL P f w [] []
  | tmp {t : Nat} {v : Value} {rs : List ResultVar} {vs : List Value} (h : get f t = some v) (hr : ResL P f w rs vs) : ResL P f w (.tmp t :: rs) (v :: vs)
  | cell {t ty : Nat} {ad : Addr} {cs : List Value} {rs : List ResultVar} {vs : List Value} (h : get f t = some (.pointer (some ad))) (ha : AggT P ty cs.length) (hc : Rd w (some ad) cs) (hr : ResL P f w rs vs) : ResL P f w (.cell t ty :: rs) (.agg cs.toArray :: vs)
def tup : List Value → Value
  | [v] => v
  | vs => .tuple vs.toArray
theorem ResL.run {P : Program} {f : Fr} {w : World} {n : Nat} {a : Act} (ha : Has n ds f a) {rs : List ResultVar} {vs : List Value} (h : ResL P f w rs vs) :
    (rs.mapM fun | .tmp t => pure (a.tmps.getD t undef) | .cell c t => do loadVar t (← asAddr (a.tmps.getD c undef)) : Sem (List Value)).run P w = .ok vs w := by
  induction h with
  | nil => simp
  | tmp h _ ih =>
    have e : a.tmps.getD _ undef = _ := ha.eval (x := .tmp _) h
    rw [List.mapM_cons]
    simp only [Sem.run_bind, Sem.run_pure, e, ih, Result.andThen_ok]
  | @cell t ty ad cs rs vs h hA hc _ ih =>
    have e : a.tmps.getD t undef = _ := ha.eval (x := .tmp _) h
    rw [List.mapM_cons]
    have e2 : (do loadVar ty (← asAddr (a.tmps.getD t undef)) : Sem Value).run P w = .ok (.agg cs.toArray) w := by rw [e]; simp [asAddr, loadVar, hA.1 w, hA.2 w, run_loadRd hc]
    simp only [Sem.run_bind] at e2
    simp only [Sem.run_bind, Sem.run_pure, e2, ih, Result.andThen_ok]
theorem results_run {P : Program} {fn : Func} {f : Fr} {w : World} {n : Nat} {a : Act} (ha : Has n ds f a) {rs : List ResultVar} {vs : List Value} (hr : fn.results = rs.toArray) (h : ResL P f w rs vs) : (results fn a.tmps).run P w = .ok (tup vs) w := by
  have := h.run ha
  unfold results
  rw [hr]
  simp only [List.mapM_toArray]
  rw [Sem.run_bind, Sem.run_map]
  have key : ∀ X : Result (List Value), X = .ok vs w → ((X.andThen fun a w' => Result.ok a.toArray w').andThen fun a w' => Sem.run P (pure (if h : a.size = 1 then a[0] else Value.tuple a)) w') = .ok (tup vs) w := by
    rintro X rfl
    simp only [Result.andThen_ok, Sem.run_pure]
    congr 1
    match vs with
    | [] => rfl
    | [v] => rfl
    | v :: u :: l => unfold tup; simp
  exact key _ this
theorem ret_ {P : Program} {fn : Func} {R : Ending → World → Prop} {f : Fr} {w : World} {n : Nat} (rs : List ResultVar) (vs : List Value) (hr : fn.results = rs.toArray) (h : ResL P f w rs vs) (hR : R (.returned (tup vs)) w) : FX n [] (bodyPost P fn R) .ret f w := fun a ha =>
  ⟨ha.defers, _, results_run ha hr h, hR⟩
theorem end_ {P : Program} {fn : Func} {R : Ending → World → Prop} {f : Fr} {w : World} {n : Nat} (rs : List ResultVar) (vs : List Value) (hr : fn.results = rs.toArray) (h : ResL P f w rs vs) (hR : R (.returned (tup vs)) w) : FX n [] (bodyPost P fn R) .normal f w := fun a ha =>
  ⟨ha.defers, _, results_run ha hr h, hR⟩

section
variable {P : Program} {Q : Exit → Act → World → Prop} {n : Nat} {ops : Array Oper} {rest : List Oper} {f : Fr} {w : World} {d : Nat} {ty : TypeId} {pos : String} {after : Array Edge} {x y : Operand} {v : Value}
theorem new_low (w : World) (cs : Array Value) (t : TypeId) : Below w.heap.size w (w.alloc (.cells cs t)) := (Below.refl _ _).alloc (Nat.le_refl _) _
theorem box {elem : TypeId} (hx : ev f x = some v) (hd : Nat.blt d n = true)
    (h : ∀ w' g, g = w.heap.size → Blk w' g elem v.cells → Below w.heap.size w w' → FL P Q n ds ops rest ((d, .pointer (some ⟨g, 0, none⟩)) :: f) w') : FL P Q n ds ops (⟨some d, .box elem x, ty, pos, after, none⟩ :: rest) f w :=
  sw (fun a ha => by unfold execOp; simp only [ha.eval hx]; simp [Instr.box, newVar, newRow]) hd (h _ _ rfl (Blk.new w elem v.cells) (new_low w _ _))
theorem alloc {elem : TypeId} {z : Value} (hz : ZeroT P elem z) (hd : Nat.blt d n = true)
    (h : ∀ w' g, g = w.heap.size → Blk w' g elem z.cells → Below w.heap.size w w' → FL P Q n ds ops rest ((d, .pointer (some ⟨g, 0, none⟩)) :: f) w') : FL P Q n ds ops (⟨some d, .alloc elem, ty, pos, after, none⟩ :: rest) f w :=
  sw (fun a ha => by unfold execOp; simp [Instr.alloc, hz w, newVar, newRow]) hd (h _ _ rfl (Blk.new w elem z.cells) (new_low w _ _))
theorem seg_set (off : Nat) : ∀ (l : List Value) (i : Nat) (cur : Array Value), off + i + l.length ≤ cur.size →
    (l.zipIdx i).foldl (fun cs (c, j) => cs.setIfInBounds (off + j) c) cur = (cur.toList.take (off + i) ++ l ++ cur.toList.drop (off + i + l.length)).toArray
  | [], i, cur, _ => by simp
  | c :: l, i, cur, h => by
    simp only [List.length_cons] at h
    rw [List.zipIdx_cons, List.foldl_cons, seg_set off l (i + 1) _ (by simp; omega)]
    have := list_seg_step cur.toList (off + i) c l (by simp; omega)
    simpa [Array.toList_setIfInBounds, Nat.add_assoc] using this
theorem fill_all (m : Nat) : ∀ (vs : List Value) (j : Nat) (cur : Array Value), cur.size = (j + vs.length) * m → (∀ v ∈ vs, v.cells.size = m) →
    Instr.fill (fun i => some (i * m, m)) cur ((vs.zipIdx j).map fun p => (p.2, p.1)) = some (cur.toList.take (j * m) ++ vs.flatMap fun v => v.cells.toList).toArray
  | [], j, cur, h, _ => by
    simp only [List.length_nil, Nat.add_zero] at h
    show some cur = _
    rw [← h, List.flatMap_nil, List.append_nil, ← Array.length_toList, List.take_length]
  | v :: vs, j, cur, h, hv => by
    have h1 := hv v (by simp)
    have hj : (j + (vs.length + 1)) * m = j * m + m + vs.length * m := by simp only [Nat.add_mul, Nat.one_mul]; omega
    have hs : cur.size = j * m + m + vs.length * m := by rw [h, List.length_cons, hj]
    rw [List.zipIdx_cons, List.map_cons, Instr.fill]
    simp only [h1, ne_eq, not_true_eq_false, decide_false, Bool.false_or, decide_eq_true_eq]
    rw [if_neg (by omega)]
    have e := seg_set (j * m) v.cells.toList 0 cur (by rw [Array.length_toList, h1]; omega)
    have e2 : (v.cells.zipIdx.foldl (fun cs (c, k) => cs.setIfInBounds (j * m + k) c) cur) = (v.cells.toList.zipIdx.foldl (fun cs (c, k) => cs.setIfInBounds (j * m + k) c) cur) := by
      rw [← Array.foldl_toList, Array.toList_zipIdx]
    rw [e2, e, fill_all m vs (j + 1) _ (by simp [h1, hs, Nat.add_mul]; omega) (fun u hu => hv u (by simp [hu]))]
    congr 2
    have hl : (cur.toList.take (j * m)).length = j * m := by rw [List.length_take, Array.length_toList]; omega
    rw [List.take_append_of_le_length (by simp [h1, hl, Nat.add_mul] <;> omega), List.take_of_length_le (by simp [h1, Nat.add_mul] <;> omega)]
    simp
theorem buildSlice {t e : TypeId} {m bytes : Nat} {parts : Array (Nat × Operand)} {len : Nat} (vs : List Value) (hT : SlT P t e m bytes) (hp : parts.toList.map (fun p => (p.1, ev f p.2)) = vs.zipIdx.map (fun p => (p.2, some p.1))) (hl : vs.length = len) (hv : ∀ v ∈ vs, v.cells.size = m) (hs : len * m ≤ 16777216) (hd : Nat.blt d n = true)
    (h : ∀ w' g, g = w.heap.size → Blk w' g e (vs.flatMap fun v => v.cells.toList).toArray → Below w.heap.size w w' → FL P Q n ds ops rest ((d, .slice (some ⟨g, 0, none⟩) len len) :: f) w') : FL P Q n ds ops (⟨some d, .buildSlice t len parts, ty, pos, after, none⟩ :: rest) f w := by
  subst hl
  obtain ⟨i, z, ht, hi, hz, hsize, hby, hzs, hsz⟩ := hT
  refine sw (fun a ha => ?_) hd (h _ _ rfl (Blk.new w e _) (new_low w _ _))
  have ep : (parts.map fun (i, x) => (i, a.eval x)).toList = vs.zipIdx.map fun p => (p.2, p.1) := by
    rw [Array.toList_map]
    have key : ∀ (l : List (Nat × Operand)) (ps : List (Nat × Value)), l.map (fun p => (p.1, ev f p.2)) = ps.map (fun p => (p.1, some p.2)) → l.map (fun p => (p.1, a.eval p.2)) = ps := by
      intro l
      induction l with
      | nil => intro ps h; cases ps with
        | nil => rfl
        | cons _ _ => simp at h
      | cons q l ih => intro ps h; cases ps with
        | nil => simp at h
        | cons p ps =>
          simp only [List.map_cons, List.cons.injEq, Prod.mk.injEq] at h ⊢
          exact ⟨Prod.ext h.1.1 (ha.eval h.1.2), ih ps h.2⟩
    exact key _ _ (by rw [hp, List.map_map]; rfl)
  unfold execOp
  by_cases h0 : vs.length = 0
  · have hv0 : vs = [] := List.eq_nil_of_length_eq_zero h0
    subst hv0
    simp only [List.zipIdx_nil, List.map_nil, Array.toList_eq_nil_iff] at ep
    simp only [ep]
    simp [Instr.buildSlice, run_underlying ht, sizeOf, typeInfo, hi, Instr.fill, newRow]
    simp [show Array.range 0 = #[] from by simp]
  · have hpos : ¬ vs.length * i.size = 0 := by rw [hsize]; intro h; rcases Nat.mul_eq_zero.1 h with h | h <;> omega
    have hf := fill_all i.size vs 0 ((Array.range (vs.length * i.size)).map (z.cells[· % z.cells.size]!)) (by simp) (fun v h => by rw [hv v h, hsize])
    rw [← ep] at hf
    simp only [Nat.zero_mul, List.take_zero, List.nil_append] at hf
    simp only []
    rw [Sem.run_bind, run_buildSlice w t e vs.length _ _ i z ht hi hz (by rw [hsize]; omega) hpos hf]
    simp
/-- a cell is written -/
theorem store {t : TypeId} {g o : Nat} {te : TypeId} {cs : Array Value} (hs : SizeT P t 1) (hx : ev f x = some (.pointer (some ⟨g, o, none⟩))) (hy : ev f y = some v) (hb : Blk w g te cs) (ho' : Nat.blt o cs.size = true) (hv : v.cells = #[v]) (h1 : v.oneCell' = true)
    (h : ∀ w', Blk w' g te (cs.setIfInBounds o v) → Chg (· = g) w w' → FL P Q n ds ops rest f w') : FL P Q n ds ops (⟨none, .store t x y, ty, pos, after, none⟩ :: rest) f w :=
  sw0 (fun a ha => by
    have ho : o < cs.size := by simpa using ho'
    unfold execOp; simp only [ha.eval hx, ha.eval hy]
    have e0 : (⟨g, o, none⟩ : Addr).add 0 = ⟨g, o, none⟩ := rfl
    have hc : w.cell? ⟨g, o, none⟩ = some cs[o] := by rw [hb.cell]; simp [ho]
    simp only [Instr.storeAt, Instr.sureAddr, storeVar, Sem.run_bind, Sem.run_pure, Result.andThen_ok, hs w, hv]
    simp [storeCells, e0, run_store P w _ v _ h1, hc, hb.frozen]) (h _ (hb.set_ o v) (Chg.setCell w ⟨g, o, none⟩ v))
theorem setRow_chg (w : World) (g : Nat) (cs : Array Value) : Chg (· = g) w (w.setRow g cs) := ⟨rfl, rfl, rfl, by simp, fun k _ hk => setRow_other w g k cs hk⟩
def putRow (cs : Array Value) (o : Nat) (vs : List Value) : Array Value := (cs.toList.take o ++ vs ++ cs.toList.drop (o + vs.length)).toArray
/-- a struct is written -/
theorem storeA {t : TypeId} {g o : Nat} {te : TypeId} {cs vs : Array Value} (hs : SizeT P t vs.size) (hx : ev f x = some (.pointer (some ⟨g, o, none⟩))) (hy : ev f y = some (.agg vs)) (hb : Blk w g te cs) (ho : o + vs.size ≤ cs.size) (h1 : ∀ v ∈ vs.toList, v.oneCell' = true)
    (h : ∀ w', Blk w' g te (putRow cs o vs.toList) → Chg (· = g) w w' → FL P Q n ds ops rest f w') : FL P Q n ds ops (⟨none, .store t x y, ty, pos, after, none⟩ :: rest) f w :=
  sw0 (fun a ha => by
    unfold execOp; simp only [ha.eval hx, ha.eval hy]
    have hst := run_storeCells_at (P := P) g o te vs.toList 0 cs w hb (by simpa using ho) h1
    simp only [Instr.storeAt, Instr.sureAddr, storeVar, Sem.run_bind, Sem.run_pure, Result.andThen_ok, hs w, Value.cells]
    simp [hst]) (h (w.setRow g (cs.toList.take (o + 0) ++ vs.toList ++ cs.toList.drop (o + 0 + vs.toList.length)).toArray) (setRow_heap w g cs _ te (0, 0) hb) (setRow_chg w g _))
/-- append onto a row of the call's own -/
theorem append {t e : TypeId} {size bytes base k m cc : Nat} {s u : Operand} {sv : Value} {xs news : List Value} {A : Option Addr}
    (nm : Nat) (ys : List Value) (hT : SlT P t e size bytes) (hs : ev f s = some sv) (hu : ev f u = some (.slice A m cc)) (hown : w.ownsRow base e size sv k xs) (hr : Rd w A news) (hl : news.length = m * size)
    (h1 : ∀ u ∈ news, u.oneCell' = true) (hb : k + m ≤ maxLen ∧ (k + m) * bytes ≤ 140737488355328) (hbase : base ≤ w.heap.size) (hnm : k + m = nm) (hys : xs ++ news = ys) (hd : Nat.blt d n = true)
    (h : ∀ A' c' w', w'.ownsRow base e size (.slice A' nm c') nm ys → Below base w w' → Chg (fun g => some g = sv.ownBlock) w w' → (A'.map (·.block) = sv.ownBlock ∨ A'.map (·.block) = some w.heap.size) → FL P Q n ds ops rest ((d, .slice A' nm c') :: f) w') :
    FL P Q n ds ops (⟨some d, .call ⟨.builtin .append, #[s, u], #[t, t]⟩, ty, pos, after, none⟩ :: rest) f w := fun a ha =>
  wpList_app nm ys rfl rfl hT hown (ha.eval hs) hr (ha.eval hu) hl h1 hb hbase hnm hys fun A' c' w' h2 h3 h4 h5 => h A' c' w' h2 h3 (Chg.grown h4) (by rw [← ownBlock_slice A' nm c']; exact h5) _ (ha.put hd _)
/-- make -/
theorem make {t e : TypeId} {size bytes base : Nat} {z : Value} {kl kc : IntKind} {L C : Int} (k : Nat) (hT : SlT P t e size bytes) (hz : (P.info? e).bind (·.zero) = some z) (hx : ev f x = some (.int kl L)) (hy : ev f y = some (.int kc C)) (hL : L = (k : Int)) (hC : C = (k : Int))
    (hb : bytes * k ≤ 281474976710656) (hm : k ≤ maxLen) (hbase : base ≤ w.heap.size) (hd : Nat.blt d n = true)
    (h : ∀ w', w'.ownsRow base e size (.slice (some ⟨w.heap.size, 0, none⟩) k k) k (madeCells z.cells (k * size)).toList → Below w.heap.size w w' → FL P Q n ds ops rest ((d, .slice (some ⟨w.heap.size, 0, none⟩) k k) :: f) w') :
    FL P Q n ds ops (⟨some d, .makeSlice t x y, ty, pos, after, none⟩ :: rest) f w := fun a ha =>
  wpList_mk k z rfl rfl hT hz (ha.eval hx) (ha.eval hy) hL hC hb hm hbase fun w' h2 h3 => h w' h2 h3 _ (ha.put hd _)
end
end Fw
end Go.Proofs.Ytgpdodhegacndaa
