/- Layer 19 (storage): for every input StoragePoweredOff returns true. -/
import Derived.Test.YtmabbdkckdpeoaaStLaw7
import Derived.Test.YtmabbdkckdpeoaaStOpen
import Derived.Test.YtmabbdkckdpeoaaFrame
import Derived.Lib.SmallJoins
namespace Go.Proofs.Ytmabbdkckdpeoaa
set_option linter.unusedSimpArgs false
set_option linter.unusedVariables false
open Go.ChangeShapes Go.WideShapes Go.Deep Go.RowKit Go.ChangeAt

theorem acts_room {H : Type} {enc : TypeId × Value → H} {W : World} {A : Option Addr} {len c : Nat} {d : DataW H} {p : List MemPlace}
    (h : DataW.Trod enc Try.prog W 0 (fun _ => true) true 34 (.slice A len c) d p) (hw : ∀ n ∈ d.weights Try.prog 34, n ≤ reachBytes) : len * 48 ≤ reachBytes := by
  obtain ⟨fuel, hf⟩ := h
  rcases open_slice_fields Try.underlying34 Try.underlying39 (by kernel_rfl) (by kernel_rfl) hf with ⟨hcs, _⟩ | ⟨x, l', c', m, D, Pl, hcs, _, hl, hm, hmm, hx, hi⟩
  · simp [Value.cells] at hcs
    obtain ⟨rfl, rfl, rfl⟩ := hcs
    unfold reachBytes; omega
  · simp [Value.cells] at hcs
    obtain ⟨rfl, rfl, rfl⟩ := hcs
    have hm' : m = c := by simpa using hmm
    subst hm'
    have hb : Try.prog.bytesOf 39 = 48 := by kernel_rfl
    have h3 := hw (m * 48) (by
      rw [show d = _ from congrArg Prod.fst hx]
      simp only [DataW.weights, Try.underlying34, List.mem_cons, hb, List.length_map, List.length_range]
      exact .inl (by rw [show len + (m - len) = m by omega]))
    omega

theorem open_act {H : Type} {enc : TypeId × Value → H} {W : World} {r : Reach} {b0 : Nat} {v : Value} {d : DataW H} {p : List MemPlace} (hv : Value.okWide Try.prog W r b0 39 v)
    (h : DataW.Trod enc Try.prog W 0 (fun _ => true) true 39 v d p) (hw : ∀ n ∈ d.weights Try.prog 39, n ≤ reachBytes) :
    ∃ (a : St.Act) (A' : Option Addr) (c' : Nat), v = .agg #[.int .u8 a.kind, .slice A' a.b.length c', .int .i64 a.n, .int .u8 a.m] ∧ ActV W (.agg #[.int .u8 a.kind, .slice A' a.b.length c', .int .i64 a.n, .int .u8 a.m]) a ∧ a.b.length ≤ 140737488355328 ∧ Rd W A' (a.b.map (.int .u8)) := by
  obtain ⟨v0, v1, v2, v3, y0, y1, y2, y3, n, rfl, hD, _, t0, t1, t2, t3⟩ := Go.Joins.open_agg4 Try.underlying39 (by kernel_rfl) (by kernel_rfl) hv h
  obtain ⟨k0, f0, _, g0⟩ := DataW.trod_int Try.underlying5 t0
  obtain ⟨k2, f2, _, g2⟩ := DataW.trod_int Try.underlying3 t2
  obtain ⟨k3, f3, _, g3⟩ := DataW.trod_int Try.underlying5 t3
  obtain ⟨A', b, c', f1, hrb, hbl, hwt⟩ := open_bytes t1
  simp at f0 f2 f3
  subst f0 f1 f2 f3
  have hbig : b.length ≤ 140737488355328 := by
    rcases hwt with h0 | ⟨k, hk1, hk2⟩
    · omega
    · have h1 : k ∈ d.weights Try.prog 39 := by
        rw [hD]
        simp only [DataW.weights, Try.underlying39]
        exact DataW.weights_mem_each (j := 1) (t := 22) rfl rfl k hk2
      have h3 := hw k h1
      unfold reachBytes at h3; omega
  exact ⟨⟨k0, b, k2, k3⟩, A', c', rfl, ⟨A', c', rfl, hrb, hbl, (bounds_u8 g0).1, bounds_i64 g2⟩, hbig, hrb⟩

set_option maxRecDepth 100000 in
theorem storagePoweredOff_lifted (os : Os) (started : os.Started) (H : Type) (enc : TypeId × Value → H) :
    ReturnsInHanded {} Try.checked os 8 .any (Rows.storagePoweredOffSpec.pre6 enc Try.prog Try.f8 Rows.storagePoweredOffRow.domain false) (Rows.storagePoweredOffSpec.post enc Try.prog Try.f8 false true false false) := by
  refine returnsInHanded_of_change_sized (C := Try.checked) own started (by kernel_rfl) Try.func8
    (ChangeSpec.witness6 (enc := enc) (C := Try.checked) false ⟨#[], #[.slice none 0 0, .agg #[.int .u8 0, .slice none 0 0, .int .i64 0, .int .u8 0]], []⟩ 8 (by kernel_rfl) (by kernel_rfl) (by kernel_rfl) (by kernel_rfl)) ?_
  intro W base args ds gs before hval0 hW hcnd hsz _
  have hval : ∀ (j : Nat) t v, Try.f8.params[j]? = some t → args[j]? = some v → Value.okWide Try.prog W .any base t v := hval0
  have hW' := hW
  obtain ⟨p, q, hA0, hV, rfl, hfz, hnd⟩ := hW
  have hA : DataW.TrodAll enc Try.prog W 0 (fun _ => true) true Try.f8.params.toList args.toList ds p := hA0
  rw [Try.params8] at hA hval
  obtain ⟨v0, vs0, d0, ds0, p0, q0, hargs, rfl, rfl, h0, r0⟩ := trodAll_cons hA
  obtain ⟨v1, vs1, d1, ds1, p1, q1, rfl, rfl, rfl, h1, r1⟩ := trodAll_cons r0
  obtain ⟨rfl, rfl, rfl⟩ := trodAll_nil r1
  obtain rfl : args = #[v0, v1] := by cases args; simp_all
  obtain ⟨rfl, rfl⟩ := trodVars_none hV
  have k0 := h0
  have lt0 : ∀ x ∈ p0, x.block < W.heap.size := by obtain ⟨m, hm⟩ := k0; exact DataW.trod_lt m _ _ _ hm
  have k1 := h1
  have lt1 : ∀ x ∈ p1, x.block < W.heap.size := by obtain ⟨m, hm⟩ := k1; exact DataW.trod_lt m _ _ _ hm
  have hw0 : ∀ n ∈ d0.weights Try.prog 34, n ≤ reachBytes := fun n hn => by
    have := List.all_eq_true.1 hsz n (DataW.weights_mem_each (j := 0) (t := 34) rfl rfl n hn)
    simpa using this
  have hw1 : ∀ n ∈ d1.weights Try.prog 39, n ≤ reachBytes := fun n hn => by
    have := List.all_eq_true.1 hsz n (DataW.weights_mem_each (j := 1) (t := 39) rfl rfl n hn)
    simpa using this
  have q0 := hval 0 34 v0 rfl rfl
  obtain ⟨a0, l0, c0, rfl, r0_, m0, n0, g0⟩ := open_acts q0 h0 hw0
  have z0 := acts_room h0 hw0
  obtain ⟨a1, A1, c1, rfl, r1_, b1, s1⟩ := open_act (hval 1 39 v1 rfl rfl) h1 hw1
  clear hA0 hval0
  refine (off_walk W a0 l0 c0 A1 c1 a1 r0_ (Nat.le_trans m0 n0) g0 (by unfold reachBytes at z0; omega) r1_ b1 s1).mono fun e W' ⟨he, bel⟩ => ?_
  subst he
  exact ⟨_, rfl, _, _, _, [], _, [], hW', trodAll_mk1 (shut_bool Try.underlying4 _), (trodAll_cons_mk (Below.trod laidOut (by kernel_rfl) (of_decide_eq_true (by kernel_rfl)) k0 bel lt0) (trodAll_cons_mk (Below.trod laidOut (by kernel_rfl) (of_decide_eq_true (by kernel_rfl)) k1 bel lt1) trodAll_mk0)), rfl, bel.frame _, fun h => by cases h⟩

/-- For every input StoragePoweredOff returns true, and its arguments read as before. -/
theorem storagePoweredOff_holds : Rows.StoragePoweredOffSaid :=
  OpenClaim.holds_of_wide 8 Try.f8 rfl rfl rfl rfl rfl rfl rfl ⟨rfl, rfl, rfl, rfl, rfl⟩ rfl rfl rfl rfl rfl (by kernel_rfl) Try.func8 (by kernel_rfl)
    (of_decide_eq_true (by kernel_rfl)) (by unfold Func.isWrapper; first | (rw [if_pos (by decide +kernel)]; kernel_rfl) | (rw [if_neg (by decide +kernel)]; exact ⟨rfl, rfl⟩))
    (fun os started H enc _ => storagePoweredOff_lifted os started H enc)

end Go.Proofs.Ytmabbdkckdpeoaa
