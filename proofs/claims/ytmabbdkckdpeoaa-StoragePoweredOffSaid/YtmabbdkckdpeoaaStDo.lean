/- Layer 19: one operation on the file and on the reference. -/
import Derived.Test.YtmabbdkckdpeoaaStRef
import Derived.Deep.RegionHeld3
namespace Go.Proofs.Ytmabbdkckdpeoaa
set_option linter.unusedSimpArgs false
set_option linter.unusedVariables false
open Go.RowKit

/-- an operation: its kind, bytes, number, mask -/
structure St.Act where
  kind : Int
  b : List Int
  n : Int
  m : Int
namespace St
def doT (t : T) (a : Act) : T := if a.kind % 5 = 0 then write t a.b else if a.kind % 5 = 1 then sync t else if a.kind % 5 = 2 then cut t a.n a.m else if a.kind % 5 = 3 then on t else short t a.n
def doE (t : T) (a : Act) : Int := if a.kind % 5 = 0 then writeE t a.b else if a.kind % 5 = 1 then syncE t else if a.kind % 5 = 2 then 0 else if a.kind % 5 = 3 then 0 else shortE t a.n
end St

/-- an operation as a value: its bytes lie somewhere and are only read -/
def ActV (w : World) (v : Value) (a : St.Act) : Prop :=
  ∃ A c, v = .agg #[.int .u8 a.kind, .slice A a.b.length c, .int .i64 a.n, .int .u8 a.m] ∧ Rd w A (a.b.map (.int .u8)) ∧ a.b.length ≤ maxLen ∧ 0 ≤ a.kind ∧ (-9223372036854775808 ≤ a.n ∧ a.n ≤ 9223372036854775807)

/-- the blocks of a file -/
def Fp (p : Nat) (g : Option Nat) : Nat → Prop := fun k => k = p ∨ some k = g

theorem FileAt.low {w w' : World} {B p : Nat} {g : Option Nat} {t : St.T} (h : FileAt w B p g t) (hb : Below w.heap.size w w') : FileAt w' B p g t := by
  obtain ⟨hB, A, c, hk, ho, hg⟩ := h
  exact ⟨hB, A, c, hk.low hb, own_below ho hb (Nat.le_refl _), hg⟩
theorem FileAt.lt {w : World} {B p : Nat} {g : Option Nat} {t : St.T} (h : FileAt w B p g t) : p < w.heap.size ∧ (∀ k, g = some k → k < w.heap.size) := by
  obtain ⟨hB, A, c, hk, ho, hg⟩ := h
  refine ⟨hk.lt, fun k hk' => ?_⟩
  exact (ho.lt k (by rw [ownBlock_slice, hg, hk'])).2
theorem FileAt.drew {w : World} {B p : Nat} {g : Option Nat} {t : St.T} (h : FileAt w B p g t) : FileAt w.drew B p g t := h
theorem FileAt.out {w : World} {B p : Nat} {g : Option Nat} {t : St.T} (h : FileAt w B p g t) {k : Nat} (hk : w.heap.size ≤ k) : ¬ Fp p g k := by
  rintro (e | e)
  · have := h.lt.1; omega
  · have := h.lt.2 k e.symm; omega
theorem FileAt.chg {w w' : World} {B p : Nat} {g : Option Nat} {t : St.T} {S : Nat → Prop} (h : FileAt w B p g t) (hc : Chg S w w') (hn : ∀ k, S k → ¬ Fp p g k) : FileAt w' B p g t := by
  obtain ⟨hB, A, c, hk, ho, hg⟩ := h
  exact ⟨hB, A, c, hk.chg hc (fun e => hn _ e (.inl rfl)), own_to ho hc (fun k hk e => hn _ e (.inr (by rw [← hg, hk]))), hg⟩
theorem TapeV.chg {w w' : World} {N S : Nat → Prop} {v : Value} {t : St.T} (h : TapeV w N v t) (hc : Chg S w w') (hn : ∀ k, N k → ¬ S k) : TapeV w' N v t := by
  obtain ⟨A, c, rfl, hr, hl, hm, ha⟩ := h
  refine ⟨A, c, rfl, ?_, hl, hm, ha⟩
  by_cases h0 : 0 < t.data.length
  · exact hr.chg hc (fun ad e => hn _ (ha ad e h0))
  · have : t.data = [] := List.eq_nil_of_length_eq_zero (by omega)
    rw [this]; exact Rd.nil _ _
theorem set3_chg (w : World) (r : Nat) (a b c : Value) : Chg (fun k => k = r) w (((w.setCell ⟨r, 0, none⟩ a).setCell ⟨r, 1, none⟩ b).setCell ⟨r, 2, none⟩ c) :=
  ((Chg.setCell w ⟨r, 0, none⟩ a).trans (Chg.setCell _ ⟨r, 1, none⟩ b) (fun _ _ h => h)).trans (Chg.setCell _ ⟨r, 2, none⟩ c) (fun _ _ h => h)

/-- what one operation leaves -/
def DoPost (w w' : World) (B p : Nat) (g : Option Nat) (t' u' : St.T) (v' : Value) : Prop :=
  ∃ g', FileAt w' B p g' t' ∧ TapeV w' (fun k => ¬ Fp p g' k) v' u' ∧ Chg (Fp p g) w w' ∧ (g' = g ∨ ∃ k, g' = some k ∧ w.heap.size ≤ k)

theorem TapeV.drew {w : World} {N : Nat → Prop} {v : Value} {t : St.T} (h : TapeV w N v t) : TapeV w.drew N v t := h
theorem TapeV.lt {w : World} {N : Nat → Prop} {v : Value} {t : St.T} (h : TapeV w N v t) : TapeV w (fun k => N k ∧ k < w.heap.size) v t := by
  obtain ⟨A, c, rfl, hr, hl, hm, ha⟩ := h
  refine ⟨A, c, rfl, hr, hl, hm, fun ad e h0 => ⟨ha ad e h0, ?_⟩⟩
  obtain ⟨ad', hA, hcell⟩ := hr 0 ((t.data.map (Value.int .u8))[0]'(by simpa using h0)) (by simp [h0])
  rw [e] at hA; injection hA with hA; subst hA
  have := World.block_lt_of_cell? _ _ hcell
  rwa [block_of_add] at this
/-- the end of an operation: w: the start; W: where the file's method began; w2: behind it; r: the result's block -/
theorem do_end {w W w2 w3 : World} {B p : Nat} {g : Option Nat} {t t' u' : St.T} {v' : Value} (r : Nat) (hf : FileAt w B p g t) (hW : Below w.heap.size w W) (hto : FileTo W w2 B p g t')
    (htv : TapeV W (fun k => ¬ Fp p g k ∧ k ≠ r) v' u') (hr1 : w.heap.size ≤ r) (hr2 : r < W.heap.size) (h3 : Chg (fun k => k = r) w2 w3) : DoPost w w3 B p g t' u' v' := by
  obtain ⟨g', hf', hc, hd⟩ := hto
  have hrg : ∀ k, k = r → ¬ Fp p g' k := by
    rintro k rfl (e | e)
    · exact hf.out hr1 (.inl e)
    · rcases hd with e' | ⟨k', e', hk'⟩
      · exact hf.out hr1 (.inr (by rw [e, e']))
      · rw [e'] at e; injection e with e; omega
  have htv2 := (htv.lt.chg hc (fun k h h' => h.1.1 h')).chg h3 (fun k h h' => h.1.2 h')
  refine ⟨g', hf'.chg h3 hrg, htv2.to (fun k h => ?_), ?_, ?_⟩
  · rintro (e' | e')
    · exact h.1.1 (.inl e')
    · rcases hd with e2 | ⟨k', e2, hk'⟩
      · exact h.1.1 (.inr (by rw [e', e2]))
      · rw [e2] at e'; injection e' with e'
        have := h.2; omega
  · exact ((Chg.of_below hW _).trans hc (fun _ _ h => h)).trans h3 (fun k hk h => by omega)
  · rcases hd with e | ⟨k, e, hk⟩
    · exact .inl e
    · exact .inr ⟨k, e, Nat.le_trans hW.size hk⟩
theorem do_end2 {w W w2 w3 w4 : World} {B p : Nat} {g : Option Nat} {t t' u' : St.T} {v' : Value} (r : Nat) (hf : FileAt w B p g t) (hW : Below w.heap.size w W) (hto : FileTo W w2 B p g t') (hb3 : Below w2.heap.size w2 w3)
    (htv : TapeV w3 (NewOr (fun k => ¬ Fp p g k ∧ k < w.heap.size) w2.heap.size) v' u') (hr1 : w.heap.size ≤ r) (hr2 : r < W.heap.size) (h4 : Chg (fun k => k = r) w3 w4) : DoPost w w4 B p g t' u' v' := by
  obtain ⟨g', hf', hc, hd⟩ := hto
  have hrg : ∀ k, w.heap.size ≤ k → k < W.heap.size → ¬ Fp p g' k := by
    rintro k hk1 hk2 (e | e)
    · exact hf.out hk1 (.inl e)
    · rcases hd with e' | ⟨k', e', hk'⟩
      · exact hf.out hk1 (.inr (by rw [e, e']))
      · rw [e'] at e; injection e with e; omega
  have hs := hc.size
  have hs1 := hW.size
  have htv2 := htv.chg h4 (fun k h e => by
    rcases h with h | h
    · have := h.2; omega
    · omega)
  refine ⟨g', (hf'.low hb3).chg h4 (fun k e => by rw [e]; exact hrg r hr1 hr2), htv2.to (fun k h => ?_), ?_, ?_⟩
  · rcases h with h | h
    · rintro (e' | e')
      · exact h.1 (.inl e')
      · rcases hd with e2 | ⟨k', e2, hk'⟩
        · exact h.1 (.inr (by rw [e', e2]))
        · rw [e2] at e'; injection e' with e'
          have := h.2; omega
    · exact hf'.out h
  · exact (((Chg.of_below hW _).trans hc (fun _ _ h => h)).trans (Chg.of_below hb3 _) (fun _ _ h => h)).trans h4 (fun k hk h => by omega)
  · rcases hd with e | ⟨k, e, hk⟩
    · exact .inl e
    · exact .inr ⟨k, e, Nat.le_trans hW.size hk⟩

set_option maxRecDepth 100000 in
set_option maxHeartbeats 1000000 in
theorem do0_any (w : World) (B p : Nat) (g : Option Nat) (t u : St.T) (v va : Value) (a : St.Act) (hf : FileAt w B p g t) (hl : t.lasts ≤ t.data.length ∧ t.data.length ≤ 16777216) (hv : TapeV w (fun k => ¬ Fp p g k) v u) (hu : u.lasts ≤ u.data.length ∧ u.data.length ≤ 16777216) (ha : ActV w va a) (hk : a.kind % 5 = 0) :
    Calls Try.prog 15 #[.pointer (some ⟨p, 0, none⟩), v, va] w fun e w' => ∃ v', e = .returned (.tuple #[v', .bool (St.writeE t a.b == St.writeE u a.b)]) ∧ DoPost w w' B p g (St.write t a.b) (St.write u a.b) v' := by
  have hv' := hv
  obtain ⟨A, c, rfl, hr, hc, hm, hnn⟩ := hv
  obtain ⟨A', c', rfl, hra, hab, hka, hna1, hna2⟩ := ha
  have HF := Lib.hid hf
  have HT := Lib.hid hv'
  have HRA := Lib.hid hra
  have HAB := Lib.hid hab
  have HFO := Lib.hid (fun (k : Nat) (hk : w.heap.size ≤ k) => hf.out hk)
  clear hf hv' hr hra hm hab hnn
  go_enter Try.func15, Try.ntmps15
  go_wp2_with fail
  refine (refWrite_any _ _ u A' a.b c' _ (HT.out.lt.low (by repeat (first | with_reducible exact Below.refl _ _ | (refine Below.alloc ?_ (by simp <;> omega) _) | (refine Below.setCell ?_ (by simp <;> omega) _) | (refine Below.drew ?_) | (refine Below.drewN' ?_ _)))) hu.2 (HRA.out.low (by repeat (first | with_reducible exact Below.refl _ _ | (refine Below.alloc ?_ (by simp <;> omega) _) | (refine Below.setCell ?_ (by simp <;> omega) _) | (refine Below.drew ?_) | (refine Below.drewN' ?_ _)))) HAB.out).mono ?_
  rintro e w1 ⟨v1, rfl, htv1, hbel1⟩
  have hact := ((Blk.new (w.alloc (.cells #[.slice A u.data.length c, .int .i64 u.lasts, .bool u.off] 37)) 39 #[.int .u8 a.kind, .slice A' a.b.length c', .int .i64 a.n, .int .u8 a.m]).alloc (.cells #[.slice none 0 0, .int .i64 0, .bool false] 37)).low hbel1
  have hres := (Blk.new ((w.alloc (.cells #[.slice A u.data.length c, .int .i64 u.lasts, .bool u.off] 37)).alloc (.cells #[.int .u8 a.kind, .slice A' a.b.length c', .int .i64 a.n, .int .u8 a.m] 39)) 37 #[.slice none 0 0, .int .i64 0, .bool false]).low hbel1
  simp at hact hres
  have HTV1 := Lib.hid htv1
  obtain ⟨A1, c1, rfl, hr1, hc1, hm1, hn1⟩ := htv1
  have HW1 := Lib.hid (show Below w.heap.size w w1 from Below.trans (by repeat (first | with_reducible exact Below.refl _ _ | (refine Below.alloc ?_ (by simp <;> omega) _) | (refine Below.setCell ?_ (by simp <;> omega) _) | (refine Below.drew ?_) | (refine Below.drewN' ?_ _))) (hbel1.mono (by simp <;> omega)))
  have hsz1 : w.heap.size + 3 ≤ w1.heap.size := by have := hbel1.size; simp at this; omega
  have HACT := Lib.hid hact
  have HRES := Lib.hid hres
  clear hact hres hbel1 hr1 hn1 hm1
  go_wp2_with fail
  obtain ⟨W, hW⟩ : ∃ W, w1.alloc (.cells #[.slice A1 (St.write u a.b).data.length c1, .int .i64 (St.write u a.b).lasts, .bool (St.write u a.b).off] 37) = W := ⟨_, rfl⟩
  rw [hW]
  have hWn : Blk W w1.heap.size 37 #[.slice A1 (St.write u a.b).data.length c1, .int .i64 (St.write u a.b).lasts, .bool (St.write u a.b).off] := by rw [← hW]; exact Blk.new _ _ _
  have hWa := HACT.out.alloc (.cells #[.slice A1 (St.write u a.b).data.length c1, .int .i64 (St.write u a.b).lasts, .bool (St.write u a.b).off] 37)
  have hWr := HRES.out.alloc (.cells #[.slice A1 (St.write u a.b).data.length c1, .int .i64 (St.write u a.b).lasts, .bool (St.write u a.b).off] 37)
  have hWB := HW1.out.alloc (by omega) (.cells #[.slice A1 (St.write u a.b).data.length c1, .int .i64 (St.write u a.b).lasts, .bool (St.write u a.b).off] 37)
  have hWT := HTV1.out.low ((Below.refl w1.heap.size w1).alloc (Nat.le_refl _) (.cells #[.slice A1 (St.write u a.b).data.length c1, .int .i64 (St.write u a.b).lasts, .bool (St.write u a.b).off] 37))
  have hWS : W.heap.size = w1.heap.size + 1 := by rw [← hW]; simp
  rw [hW] at hWa hWr hWB hWT
  have hn0 := hWn.cell 0
  have hn1 := hWn.cell 1
  have hn2 := hWn.cell 2
  have ha1 := hWa.cell 1
  have ha2 := hWa.cell 2
  have hr0 := hWr.cell 0
  have hr1 := hWr.cell 1
  have hr2 := hWr.cell 2
  have hq0 := hWr.frozen 0
  have hq1 := hWr.frozen 1
  have hq2 := hWr.frozen 2
  simp at hn0 hn1 hn2 ha1 ha2 hr0 hr1 hr2
  have HN := Lib.hid hWn
  have HA2 := Lib.hid hWa
  have HRR := Lib.hid hWr
  have HWB := Lib.hid hWB
  have HWT := Lib.hid hWT
  have HWS := Lib.hid hWS
  have HF2 := Lib.hid (HF.out.low hWB)
  have hne1 : ¬ (w1.heap.size = w.heap.size + 1 + 1) := by omega
  have hne2 : ¬ (w.heap.size + 1 + 1 = w1.heap.size) := by omega
  clear hW hWn hWa hWr hWB hWT hWS
  go_region_held3 (fun w' => (w'.cell? ⟨w1.heap.size, 0, none⟩ = some (.slice A1 (St.write u a.b).data.length c1) ∧ w'.cell? ⟨w1.heap.size, 1, none⟩ = some (.int .i64 (St.write u a.b).lasts) ∧ w'.cell? ⟨w1.heap.size, 2, none⟩ = some (.bool (St.write u a.b).off)) ∧ w'.cell? ⟨w.heap.size + 1, 1, none⟩ = some (.slice A' a.b.length c'))
    (first | exact HS2 | go_keep)
    (first | (go_at_call 11; refine (write_any _ B p g t a.b A' c' HF2.out.drew hl.2 ((HRA.out.low HWB.out).drew) HAB.out).mono ?_; rintro e w2 ⟨rfl, hto⟩
              obtain ⟨g', hf2, hc2, hd2⟩ := hto
              have hn' := HN.out.drew.chg hc2 (HFO.out _ (by omega))
              have ha' := HA2.out.drew.chg hc2 (HFO.out _ (by omega))
              have hr' := HRR.out.drew.chg hc2 (HFO.out _ (by omega))
              have n0 := hn'.cell 0
              have n1 := hn'.cell 1
              have n2 := hn'.cell 2
              have a1 := ha'.cell 1
              have a2 := ha'.cell 2
              have r0 := hr'.cell 0
              have r1 := hr'.cell 1
              have r2 := hr'.cell 2
              have q0 := hr'.frozen 0
              have q1 := hr'.frozen 1
              have q2 := hr'.frozen 2
              simp at n0 n1 n2 a1 a2 r0 r1 r2
              have HS2 := And.intro (And.intro n0 (And.intro n1 n2)) a1
              have HTO := Lib.hid (show FileTo W.drew w2 B p g _ from ⟨g', hf2, hc2, hd2⟩)
              clear hn' ha' hr' hf2 hc2 hd2))
  go_wp2
  refine bodyPost_ret (v := .tuple #[.agg #[.slice A1 (St.write u a.b).data.length c1, .int .i64 (St.write u a.b).lasts, .bool (St.write u a.b).off], .bool _]) (by simp [results, Try.results15, go_sem, r0, r1, r2, q0, q1, q2]; rfl) rfl ?_
  refine ⟨_, rfl, do_end (w.heap.size + 1 + 1) HF.out (HWB.out.drew) HTO.out ((HWT.out.to (fun k h => ?_)).drew) (by omega) (by show _ < W.heap.size; rw [HWS.out]; omega) (set3_chg _ _ _ _ _)⟩
  rcases h with h | h
  · exact ⟨h.1, by omega⟩
  · simp at h; exact ⟨HFO.out k (by omega), by omega⟩

set_option maxRecDepth 100000 in
set_option maxHeartbeats 1000000 in
theorem do1_any (w : World) (B p : Nat) (g : Option Nat) (t u : St.T) (v va : Value) (a : St.Act) (hf : FileAt w B p g t) (hl : t.lasts ≤ t.data.length ∧ t.data.length ≤ 16777216) (hv : TapeV w (fun k => ¬ Fp p g k) v u) (hu : u.lasts ≤ u.data.length ∧ u.data.length ≤ 16777216) (ha : ActV w va a) (hk : a.kind % 5 = 1) :
    Calls Try.prog 15 #[.pointer (some ⟨p, 0, none⟩), v, va] w fun e w' => ∃ v', e = .returned (.tuple #[v', .bool (St.syncE t == St.syncE u)]) ∧ DoPost w w' B p g (St.sync t) (St.sync u) v' := by
  have hv' := hv
  obtain ⟨A, c, rfl, hr, hc, hm, hnn⟩ := hv
  obtain ⟨A', c', rfl, hra, hab, hka, hna1, hna2⟩ := ha
  have HF := Lib.hid hf
  have HT := Lib.hid hv'
  have HRA := Lib.hid hra
  have HAB := Lib.hid hab
  have HFO := Lib.hid (fun (k : Nat) (hk : w.heap.size ≤ k) => hf.out hk)
  clear hf hv' hr hra hm hab hnn
  go_enter Try.func15, Try.ntmps15
  go_wp2_with fail
  refine (refSync_any _ _ u _ (HT.out.lt.low (by repeat (first | with_reducible exact Below.refl _ _ | (refine Below.alloc ?_ (by simp <;> omega) _) | (refine Below.setCell ?_ (by simp <;> omega) _) | (refine Below.drew ?_) | (refine Below.drewN' ?_ _)))) hu.2).mono ?_
  rintro e w1 ⟨v1, rfl, htv1, hbel1⟩
  have hact := ((Blk.new (w.alloc (.cells #[.slice A u.data.length c, .int .i64 u.lasts, .bool u.off] 37)) 39 #[.int .u8 a.kind, .slice A' a.b.length c', .int .i64 a.n, .int .u8 a.m]).alloc (.cells #[.slice none 0 0, .int .i64 0, .bool false] 37)).low hbel1
  have hres := (Blk.new ((w.alloc (.cells #[.slice A u.data.length c, .int .i64 u.lasts, .bool u.off] 37)).alloc (.cells #[.int .u8 a.kind, .slice A' a.b.length c', .int .i64 a.n, .int .u8 a.m] 39)) 37 #[.slice none 0 0, .int .i64 0, .bool false]).low hbel1
  simp at hact hres
  have HTV1 := Lib.hid htv1
  obtain ⟨A1, c1, rfl, hr1, hc1, hm1, hn1⟩ := htv1
  have HW1 := Lib.hid (show Below w.heap.size w w1 from Below.trans (by repeat (first | with_reducible exact Below.refl _ _ | (refine Below.alloc ?_ (by simp <;> omega) _) | (refine Below.setCell ?_ (by simp <;> omega) _) | (refine Below.drew ?_) | (refine Below.drewN' ?_ _))) (hbel1.mono (by simp <;> omega)))
  have hsz1 : w.heap.size + 3 ≤ w1.heap.size := by have := hbel1.size; simp at this; omega
  have HACT := Lib.hid hact
  have HRES := Lib.hid hres
  clear hact hres hbel1 hr1 hn1 hm1
  go_wp2_with fail
  obtain ⟨W, hW⟩ : ∃ W, w1.alloc (.cells #[.slice A1 (St.sync u).data.length c1, .int .i64 (St.sync u).lasts, .bool (St.sync u).off] 37) = W := ⟨_, rfl⟩
  rw [hW]
  have hWn : Blk W w1.heap.size 37 #[.slice A1 (St.sync u).data.length c1, .int .i64 (St.sync u).lasts, .bool (St.sync u).off] := by rw [← hW]; exact Blk.new _ _ _
  have hWa := HACT.out.alloc (.cells #[.slice A1 (St.sync u).data.length c1, .int .i64 (St.sync u).lasts, .bool (St.sync u).off] 37)
  have hWr := HRES.out.alloc (.cells #[.slice A1 (St.sync u).data.length c1, .int .i64 (St.sync u).lasts, .bool (St.sync u).off] 37)
  have hWB := HW1.out.alloc (by omega) (.cells #[.slice A1 (St.sync u).data.length c1, .int .i64 (St.sync u).lasts, .bool (St.sync u).off] 37)
  have hWT := HTV1.out.low ((Below.refl w1.heap.size w1).alloc (Nat.le_refl _) (.cells #[.slice A1 (St.sync u).data.length c1, .int .i64 (St.sync u).lasts, .bool (St.sync u).off] 37))
  have hWS : W.heap.size = w1.heap.size + 1 := by rw [← hW]; simp
  rw [hW] at hWa hWr hWB hWT
  have hn0 := hWn.cell 0
  have hn1 := hWn.cell 1
  have hn2 := hWn.cell 2
  have ha1 := hWa.cell 1
  have ha2 := hWa.cell 2
  have hr0 := hWr.cell 0
  have hr1 := hWr.cell 1
  have hr2 := hWr.cell 2
  have hq0 := hWr.frozen 0
  have hq1 := hWr.frozen 1
  have hq2 := hWr.frozen 2
  simp at hn0 hn1 hn2 ha1 ha2 hr0 hr1 hr2
  have HN := Lib.hid hWn
  have HA2 := Lib.hid hWa
  have HRR := Lib.hid hWr
  have HWB := Lib.hid hWB
  have HWT := Lib.hid hWT
  have HWS := Lib.hid hWS
  have HF2 := Lib.hid (HF.out.low hWB)
  have hne1 : ¬ (w1.heap.size = w.heap.size + 1 + 1) := by omega
  have hne2 : ¬ (w.heap.size + 1 + 1 = w1.heap.size) := by omega
  clear hW hWn hWa hWr hWB hWT hWS
  go_region_held3 (fun w' => (w'.cell? ⟨w1.heap.size, 0, none⟩ = some (.slice A1 (St.sync u).data.length c1) ∧ w'.cell? ⟨w1.heap.size, 1, none⟩ = some (.int .i64 (St.sync u).lasts) ∧ w'.cell? ⟨w1.heap.size, 2, none⟩ = some (.bool (St.sync u).off)))
    (first | exact HS2 | go_keep)
    (first | (go_at_call 20; refine (sync_any _ B p g t HF2.out.drew hl.2).mono ?_; rintro e w2 ⟨rfl, hto⟩
              obtain ⟨g', hf2, hc2, hd2⟩ := hto
              have hn' := HN.out.drew.chg hc2 (HFO.out _ (by omega))
              have ha' := HA2.out.drew.chg hc2 (HFO.out _ (by omega))
              have hr' := HRR.out.drew.chg hc2 (HFO.out _ (by omega))
              have n0 := hn'.cell 0
              have n1 := hn'.cell 1
              have n2 := hn'.cell 2
              have a1 := ha'.cell 1
              have a2 := ha'.cell 2
              have r0 := hr'.cell 0
              have r1 := hr'.cell 1
              have r2 := hr'.cell 2
              have q0 := hr'.frozen 0
              have q1 := hr'.frozen 1
              have q2 := hr'.frozen 2
              simp at n0 n1 n2 a1 a2 r0 r1 r2
              have HS2 := And.intro n0 (And.intro n1 n2)
              have HTO := Lib.hid (show FileTo W.drew w2 B p g _ from ⟨g', hf2, hc2, hd2⟩)
              clear hn' ha' hr' hf2 hc2 hd2))
  go_wp2
  refine bodyPost_ret (v := .tuple #[.agg #[.slice A1 (St.sync u).data.length c1, .int .i64 (St.sync u).lasts, .bool (St.sync u).off], .bool _]) (by simp [results, Try.results15, go_sem, r0, r1, r2, q0, q1, q2]; rfl) rfl ?_
  refine ⟨_, rfl, do_end (w.heap.size + 1 + 1) HF.out (HWB.out.drew) HTO.out ((HWT.out.to (fun k h => ?_)).drew) (by omega) (by show _ < W.heap.size; rw [HWS.out]; omega) (set3_chg _ _ _ _ _)⟩
  rcases h with h | h
  · exact ⟨h.1, by omega⟩
  · simp at h; exact ⟨HFO.out k (by omega), by omega⟩

set_option maxRecDepth 100000 in
set_option maxHeartbeats 1000000 in
theorem do4_any (w : World) (B p : Nat) (g : Option Nat) (t u : St.T) (v va : Value) (a : St.Act) (hf : FileAt w B p g t) (hl : t.lasts ≤ t.data.length ∧ t.data.length ≤ 16777216) (hv : TapeV w (fun k => ¬ Fp p g k) v u) (hu : u.lasts ≤ u.data.length ∧ u.data.length ≤ 16777216) (ha : ActV w va a) (hk : a.kind % 5 = 4) :
    Calls Try.prog 15 #[.pointer (some ⟨p, 0, none⟩), v, va] w fun e w' => ∃ v', e = .returned (.tuple #[v', .bool (St.shortE t a.n == St.shortE u a.n)]) ∧ DoPost w w' B p g (St.short t a.n) (St.short u a.n) v' := by
  have hv' := hv
  obtain ⟨A, c, rfl, hr, hc, hm, hnn⟩ := hv
  obtain ⟨A', c', rfl, hra, hab, hka, hna1, hna2⟩ := ha
  have HF := Lib.hid hf
  have HT := Lib.hid hv'
  have HRA := Lib.hid hra
  have HAB := Lib.hid hab
  have HFO := Lib.hid (fun (k : Nat) (hk : w.heap.size ≤ k) => hf.out hk)
  clear hf hv' hr hra hm hab hnn
  go_enter Try.func15, Try.ntmps15
  go_wp2_with fail
  refine (refShort_any _ _ u a.n _ (HT.out.lt.low (by repeat (first | with_reducible exact Below.refl _ _ | (refine Below.alloc ?_ (by simp <;> omega) _) | (refine Below.setCell ?_ (by simp <;> omega) _) | (refine Below.drew ?_) | (refine Below.drewN' ?_ _)))) hu).mono ?_
  rintro e w1 ⟨v1, rfl, htv1, hbel1⟩
  have hact := ((Blk.new (w.alloc (.cells #[.slice A u.data.length c, .int .i64 u.lasts, .bool u.off] 37)) 39 #[.int .u8 a.kind, .slice A' a.b.length c', .int .i64 a.n, .int .u8 a.m]).alloc (.cells #[.slice none 0 0, .int .i64 0, .bool false] 37)).low hbel1
  have hres := (Blk.new ((w.alloc (.cells #[.slice A u.data.length c, .int .i64 u.lasts, .bool u.off] 37)).alloc (.cells #[.int .u8 a.kind, .slice A' a.b.length c', .int .i64 a.n, .int .u8 a.m] 39)) 37 #[.slice none 0 0, .int .i64 0, .bool false]).low hbel1
  simp at hact hres
  have HTV1 := Lib.hid htv1
  obtain ⟨A1, c1, rfl, hr1, hc1, hm1, hn1⟩ := htv1
  have HW1 := Lib.hid (show Below w.heap.size w w1 from Below.trans (by repeat (first | with_reducible exact Below.refl _ _ | (refine Below.alloc ?_ (by simp <;> omega) _) | (refine Below.setCell ?_ (by simp <;> omega) _) | (refine Below.drew ?_) | (refine Below.drewN' ?_ _))) (hbel1.mono (by simp <;> omega)))
  have hsz1 : w.heap.size + 3 ≤ w1.heap.size := by have := hbel1.size; simp at this; omega
  have HACT := Lib.hid hact
  have HRES := Lib.hid hres
  clear hact hres hbel1 hr1 hn1 hm1
  go_wp2_with fail
  obtain ⟨W, hW⟩ : ∃ W, w1.alloc (.cells #[.slice A1 (St.short u a.n).data.length c1, .int .i64 (St.short u a.n).lasts, .bool (St.short u a.n).off] 37) = W := ⟨_, rfl⟩
  rw [hW]
  have hWn : Blk W w1.heap.size 37 #[.slice A1 (St.short u a.n).data.length c1, .int .i64 (St.short u a.n).lasts, .bool (St.short u a.n).off] := by rw [← hW]; exact Blk.new _ _ _
  have hWa := HACT.out.alloc (.cells #[.slice A1 (St.short u a.n).data.length c1, .int .i64 (St.short u a.n).lasts, .bool (St.short u a.n).off] 37)
  have hWr := HRES.out.alloc (.cells #[.slice A1 (St.short u a.n).data.length c1, .int .i64 (St.short u a.n).lasts, .bool (St.short u a.n).off] 37)
  have hWB := HW1.out.alloc (by omega) (.cells #[.slice A1 (St.short u a.n).data.length c1, .int .i64 (St.short u a.n).lasts, .bool (St.short u a.n).off] 37)
  have hWT := HTV1.out.low ((Below.refl w1.heap.size w1).alloc (Nat.le_refl _) (.cells #[.slice A1 (St.short u a.n).data.length c1, .int .i64 (St.short u a.n).lasts, .bool (St.short u a.n).off] 37))
  have hWS : W.heap.size = w1.heap.size + 1 := by rw [← hW]; simp
  rw [hW] at hWa hWr hWB hWT
  have hn0 := hWn.cell 0
  have hn1 := hWn.cell 1
  have hn2 := hWn.cell 2
  have ha1 := hWa.cell 1
  have ha2 := hWa.cell 2
  have hr0 := hWr.cell 0
  have hr1 := hWr.cell 1
  have hr2 := hWr.cell 2
  have hq0 := hWr.frozen 0
  have hq1 := hWr.frozen 1
  have hq2 := hWr.frozen 2
  simp at hn0 hn1 hn2 ha1 ha2 hr0 hr1 hr2
  have HN := Lib.hid hWn
  have HA2 := Lib.hid hWa
  have HRR := Lib.hid hWr
  have HWB := Lib.hid hWB
  have HWT := Lib.hid hWT
  have HWS := Lib.hid hWS
  have HF2 := Lib.hid (HF.out.low hWB)
  have hne1 : ¬ (w1.heap.size = w.heap.size + 1 + 1) := by omega
  have hne2 : ¬ (w.heap.size + 1 + 1 = w1.heap.size) := by omega
  clear hW hWn hWa hWr hWB hWT hWS
  go_region_held3 (fun w' => (w'.cell? ⟨w1.heap.size, 0, none⟩ = some (.slice A1 (St.short u a.n).data.length c1) ∧ w'.cell? ⟨w1.heap.size, 1, none⟩ = some (.int .i64 (St.short u a.n).lasts) ∧ w'.cell? ⟨w1.heap.size, 2, none⟩ = some (.bool (St.short u a.n).off)) ∧ w'.cell? ⟨w.heap.size + 1, 2, none⟩ = some (.int .i64 a.n))
    (first | exact HS2 | go_keep)
    (first | (go_at_call 21; refine (truncate_any _ B p g t a.n HF2.out.drew hl).mono ?_; rintro e w2 ⟨rfl, hto⟩
              obtain ⟨g', hf2, hc2, hd2⟩ := hto
              have hn' := HN.out.drew.chg hc2 (HFO.out _ (by omega))
              have ha' := HA2.out.drew.chg hc2 (HFO.out _ (by omega))
              have hr' := HRR.out.drew.chg hc2 (HFO.out _ (by omega))
              have n0 := hn'.cell 0
              have n1 := hn'.cell 1
              have n2 := hn'.cell 2
              have a1 := ha'.cell 1
              have a2 := ha'.cell 2
              have r0 := hr'.cell 0
              have r1 := hr'.cell 1
              have r2 := hr'.cell 2
              have q0 := hr'.frozen 0
              have q1 := hr'.frozen 1
              have q2 := hr'.frozen 2
              simp at n0 n1 n2 a1 a2 r0 r1 r2
              have HS2 := And.intro (And.intro n0 (And.intro n1 n2)) a2
              have HTO := Lib.hid (show FileTo W.drew w2 B p g _ from ⟨g', hf2, hc2, hd2⟩)
              clear hn' ha' hr' hf2 hc2 hd2))
  go_wp2
  refine bodyPost_ret (v := .tuple #[.agg #[.slice A1 (St.short u a.n).data.length c1, .int .i64 (St.short u a.n).lasts, .bool (St.short u a.n).off], .bool _]) (by simp [results, Try.results15, go_sem, r0, r1, r2, q0, q1, q2]; rfl) rfl ?_
  refine ⟨_, rfl, do_end (w.heap.size + 1 + 1) HF.out (HWB.out.drew) HTO.out ((HWT.out.to (fun k h => ?_)).drew) (by omega) (by show _ < W.heap.size; rw [HWS.out]; omega) (set3_chg _ _ _ _ _)⟩
  rcases h with h | h
  · exact ⟨h.1, by omega⟩
  · simp at h; exact ⟨HFO.out k (by omega), by omega⟩

set_option maxRecDepth 100000 in
set_option maxHeartbeats 1000000 in
theorem do2_any (w : World) (B p : Nat) (g : Option Nat) (t u : St.T) (v va : Value) (a : St.Act) (hf : FileAt w B p g t) (hl : t.lasts ≤ t.data.length ∧ t.data.length ≤ 16777216) (hv : TapeV w (fun k => ¬ Fp p g k) v u) (hu : u.lasts ≤ u.data.length ∧ u.data.length ≤ 16777216) (ha : ActV w va a) (hk : a.kind % 5 = 2) :
    Calls Try.prog 15 #[.pointer (some ⟨p, 0, none⟩), v, va] w fun e w' => ∃ v', e = .returned (.tuple #[v', .bool (true)]) ∧ DoPost w w' B p g (St.cut t a.n a.m) (St.cut u a.n a.m) v' := by
  have hv' := hv
  obtain ⟨A, c, rfl, hr, hc, hm, hnn⟩ := hv
  obtain ⟨A', c', rfl, hra, hab, hka, hna1, hna2⟩ := ha
  have HF := Lib.hid hf
  have HT := Lib.hid hv'
  have HRA := Lib.hid hra
  have HAB := Lib.hid hab
  have HFO := Lib.hid (fun (k : Nat) (hk : w.heap.size ≤ k) => hf.out hk)
  clear hf hv' hr hra hm hab hnn
  obtain ⟨W, hW⟩ : ∃ W, ((w.alloc (.cells #[.slice A u.data.length c, .int .i64 u.lasts, .bool u.off] 37)).alloc (.cells #[.int .u8 a.kind, .slice A' a.b.length c', .int .i64 a.n, .int .u8 a.m] 39)).alloc (.cells #[.slice none 0 0, .int .i64 0, .bool false] 37) = W := ⟨_, rfl⟩
  have hWB : Below w.heap.size w W := by rw [← hW]; exact (by repeat (first | with_reducible exact Below.refl _ _ | (refine Below.alloc ?_ (by simp <;> omega) _) | (refine Below.setCell ?_ (by simp <;> omega) _) | (refine Below.drew ?_) | (refine Below.drewN' ?_ _)))
  have htb := ((Blk.new w 37 #[.slice A u.data.length c, .int .i64 u.lasts, .bool u.off]).alloc (.cells #[.int .u8 a.kind, .slice A' a.b.length c', .int .i64 a.n, .int .u8 a.m] 39)).alloc (.cells #[.slice none 0 0, .int .i64 0, .bool false] 37)
  have hab := (Blk.new (w.alloc (.cells #[.slice A u.data.length c, .int .i64 u.lasts, .bool u.off] 37)) 39 #[.int .u8 a.kind, .slice A' a.b.length c', .int .i64 a.n, .int .u8 a.m]).alloc (.cells #[.slice none 0 0, .int .i64 0, .bool false] 37)
  have hrb := Blk.new ((w.alloc (.cells #[.slice A u.data.length c, .int .i64 u.lasts, .bool u.off] 37)).alloc (.cells #[.int .u8 a.kind, .slice A' a.b.length c', .int .i64 a.n, .int .u8 a.m] 39)) 37 #[.slice none 0 0, .int .i64 0, .bool false]
  rw [World.size_alloc] at hab
  rw [World.size_alloc, World.size_alloc] at hrb
  have hWS : W.heap.size = w.heap.size + 3 := by rw [← hW]; simp
  rw [hW] at htb hab hrb
  have a0 := hab.cell 0
  have a2 := hab.cell 2
  have a3 := hab.cell 3
  simp at a0 a2 a3
  have HW := Lib.hid hW
  have HWB := Lib.hid hWB
  have HTB := Lib.hid htb
  have HABX := Lib.hid hab
  have HRB := Lib.hid hrb
  have HWS := Lib.hid hWS
  clear hW hWB htb hab hrb hWS
  go_enter Try.func15, Try.ntmps15
  go_wp2_with fail
  rw [HW.out]
  refine (powerFail_any _ B p g t a.n a.m (HF.out.low HWB.out) hl ⟨hna1, hna2⟩).mono ?_
  rintro e w2 ⟨rfl, hto⟩
  obtain ⟨g', hf2, hc2, hd2⟩ := hto
  have ht' := HTB.out.chg hc2 (HFO.out _ (by omega))
  have ha' := HABX.out.chg hc2 (HFO.out _ (by omega))
  have hr' := HRB.out.chg hc2 (HFO.out _ (by omega))
  have t0 := ht'.cell 0
  have t1 := ht'.cell 1
  have t2 := ht'.cell 2
  have b2 := ha'.cell 2
  have b3 := ha'.cell 3
  simp at t0 t1 t2 b2 b3
  have HTP := Lib.hid ((HT.out.lt.low HWB.out).chg hc2 (fun k h h' => h.1 h'))
  have HRP := Lib.hid hr'
  have HTO := Lib.hid (show FileTo W w2 B p g _ from ⟨g', hf2, hc2, hd2⟩)
  clear ht' ha' hr' hf2 hc2 hd2
  go_wp2_with fail
  refine (refCut_any _ _ u a.n a.m _ HTP.out hu ⟨hna1, hna2⟩).mono ?_
  rintro e w3 ⟨v1, rfl, htv1, hbel1⟩
  have HTV1 := Lib.hid htv1
  obtain ⟨A1, c1, rfl, hr1, hc1, hm1, hn1⟩ := htv1
  have hr3 := HRP.out.low hbel1
  have r0 := hr3.cell 0
  have r1 := hr3.cell 1
  have r2 := hr3.cell 2
  have q0 := hr3.frozen 0
  have q1 := hr3.frozen 1
  have q2 := hr3.frozen 2
  simp at r0 r1 r2
  have HB3 := Lib.hid hbel1
  clear hr3 hbel1 hr1 hm1 hn1
  go_wp2
  refine bodyPost_ret (v := .tuple #[.agg #[.slice A1 (St.cut u a.n a.m).data.length c1, .int .i64 (St.cut u a.n a.m).lasts, .bool (St.cut u a.n a.m).off], .bool true]) (by simp [results, Try.results15, go_sem, r0, r1, r2, q0, q1, q2]) rfl ?_
  refine ⟨_, rfl, do_end2 (w.heap.size + 1 + 1) HF.out HWB.out HTO.out HB3.out HTV1.out (by omega) (by rw [HWS.out]; omega) (set3_chg _ _ _ _ _)⟩

set_option maxRecDepth 100000 in
set_option maxHeartbeats 1000000 in
theorem do3_any (w : World) (B p : Nat) (g : Option Nat) (t u : St.T) (v va : Value) (a : St.Act) (hf : FileAt w B p g t) (hl : t.lasts ≤ t.data.length ∧ t.data.length ≤ 16777216) (hv : TapeV w (fun k => ¬ Fp p g k) v u) (hu : u.lasts ≤ u.data.length ∧ u.data.length ≤ 16777216) (ha : ActV w va a) (hk : a.kind % 5 = 3) :
    Calls Try.prog 15 #[.pointer (some ⟨p, 0, none⟩), v, va] w fun e w' => ∃ v', e = .returned (.tuple #[v', .bool (true)]) ∧ DoPost w w' B p g (St.on t) (St.on u) v' := by
  have hv' := hv
  obtain ⟨A, c, rfl, hr, hc, hm, hnn⟩ := hv
  obtain ⟨A', c', rfl, hra, hab, hka, hna1, hna2⟩ := ha
  have HF := Lib.hid hf
  have HT := Lib.hid hv'
  have HRA := Lib.hid hra
  have HAB := Lib.hid hab
  have HFO := Lib.hid (fun (k : Nat) (hk : w.heap.size ≤ k) => hf.out hk)
  clear hf hv' hr hra hm hab hnn
  obtain ⟨W, hW⟩ : ∃ W, ((w.alloc (.cells #[.slice A u.data.length c, .int .i64 u.lasts, .bool u.off] 37)).alloc (.cells #[.int .u8 a.kind, .slice A' a.b.length c', .int .i64 a.n, .int .u8 a.m] 39)).alloc (.cells #[.slice none 0 0, .int .i64 0, .bool false] 37) = W := ⟨_, rfl⟩
  have hWB : Below w.heap.size w W := by rw [← hW]; exact (by repeat (first | with_reducible exact Below.refl _ _ | (refine Below.alloc ?_ (by simp <;> omega) _) | (refine Below.setCell ?_ (by simp <;> omega) _) | (refine Below.drew ?_) | (refine Below.drewN' ?_ _)))
  have htb := ((Blk.new w 37 #[.slice A u.data.length c, .int .i64 u.lasts, .bool u.off]).alloc (.cells #[.int .u8 a.kind, .slice A' a.b.length c', .int .i64 a.n, .int .u8 a.m] 39)).alloc (.cells #[.slice none 0 0, .int .i64 0, .bool false] 37)
  have hab := (Blk.new (w.alloc (.cells #[.slice A u.data.length c, .int .i64 u.lasts, .bool u.off] 37)) 39 #[.int .u8 a.kind, .slice A' a.b.length c', .int .i64 a.n, .int .u8 a.m]).alloc (.cells #[.slice none 0 0, .int .i64 0, .bool false] 37)
  have hrb := Blk.new ((w.alloc (.cells #[.slice A u.data.length c, .int .i64 u.lasts, .bool u.off] 37)).alloc (.cells #[.int .u8 a.kind, .slice A' a.b.length c', .int .i64 a.n, .int .u8 a.m] 39)) 37 #[.slice none 0 0, .int .i64 0, .bool false]
  rw [World.size_alloc] at hab
  rw [World.size_alloc, World.size_alloc] at hrb
  have hWS : W.heap.size = w.heap.size + 3 := by rw [← hW]; simp
  rw [hW] at htb hab hrb
  have a0 := hab.cell 0
  have a2 := hab.cell 2
  have a3 := hab.cell 3
  simp at a0 a2 a3
  have HW := Lib.hid hW
  have HWB := Lib.hid hWB
  have HTB := Lib.hid htb
  have HABX := Lib.hid hab
  have HRB := Lib.hid hrb
  have HWS := Lib.hid hWS
  clear hW hWB htb hab hrb hWS
  go_enter Try.func15, Try.ntmps15
  go_wp2_with fail
  rw [HW.out]
  refine (powerOn_any _ B p g t (HF.out.low HWB.out)).mono ?_
  rintro e w2 ⟨rfl, hto⟩
  obtain ⟨g', hf2, hc2, hd2⟩ := hto
  have ht' := HTB.out.chg hc2 (HFO.out _ (by omega))
  have ha' := HABX.out.chg hc2 (HFO.out _ (by omega))
  have hr' := HRB.out.chg hc2 (HFO.out _ (by omega))
  have t0 := ht'.cell 0
  have t1 := ht'.cell 1
  have t2 := ht'.cell 2
  have b2 := ha'.cell 2
  have b3 := ha'.cell 3
  simp at t0 t1 t2 b2 b3
  have HTP := Lib.hid ((HT.out.lt.low HWB.out).chg hc2 (fun k h h' => h.1 h'))
  have HRP := Lib.hid hr'
  have HTO := Lib.hid (show FileTo W w2 B p g _ from ⟨g', hf2, hc2, hd2⟩)
  clear ht' ha' hr' hf2 hc2 hd2
  go_wp2_with fail
  refine (refOn_any _ _ u _ HTP.out).mono ?_
  rintro e w3 ⟨v1, rfl, htv1, hbel1⟩
  have HTV1 := Lib.hid htv1
  obtain ⟨A1, c1, rfl, hr1, hc1, hm1, hn1⟩ := htv1
  have hr3 := HRP.out.low hbel1
  have r0 := hr3.cell 0
  have r1 := hr3.cell 1
  have r2 := hr3.cell 2
  have q0 := hr3.frozen 0
  have q1 := hr3.frozen 1
  have q2 := hr3.frozen 2
  simp at r0 r1 r2
  have HB3 := Lib.hid hbel1
  clear hr3 hbel1 hr1 hm1 hn1
  go_wp2
  refine bodyPost_ret (v := .tuple #[.agg #[.slice A1 (St.on u).data.length c1, .int .i64 (St.on u).lasts, .bool (St.on u).off], .bool true]) (by simp [results, Try.results15, go_sem, r0, r1, r2, q0, q1, q2]) rfl ?_
  refine ⟨_, rfl, do_end2 (w.heap.size + 1 + 1) HF.out HWB.out HTO.out HB3.out HTV1.out (by omega) (by rw [HWS.out]; omega) (set3_chg _ _ _ _ _)⟩

/-- one operation on the file and on the reference -/
theorem do_any (w : World) (B p : Nat) (g : Option Nat) (t u : St.T) (v va : Value) (a : St.Act) (hf : FileAt w B p g t) (hl : t.lasts ≤ t.data.length ∧ t.data.length ≤ 16777216) (hv : TapeV w (fun k => ¬ Fp p g k) v u) (hu : u.lasts ≤ u.data.length ∧ u.data.length ≤ 16777216) (ha : ActV w va a) :
    Calls Try.prog 15 #[.pointer (some ⟨p, 0, none⟩), v, va] w fun e w' => ∃ v', e = .returned (.tuple #[v', .bool (St.doE t a == St.doE u a)]) ∧ DoPost w w' B p g (St.doT t a) (St.doT u a) v' := by
  have hk : a.kind % 5 = 0 ∨ a.kind % 5 = 1 ∨ a.kind % 5 = 2 ∨ a.kind % 5 = 3 ∨ a.kind % 5 = 4 := by omega
  rcases hk with h | h | h | h | h
  · have := do0_any w B p g t u v va a hf hl hv hu ha h
    unfold St.doE St.doT; rw [if_pos h, if_pos h, if_pos h, if_pos h]; exact this
  · have := do1_any w B p g t u v va a hf hl hv hu ha h
    unfold St.doE St.doT; simp only [h]; exact this
  · have := do2_any w B p g t u v va a hf hl hv hu ha h
    unfold St.doE St.doT; simp only [h]; exact this
  · have := do3_any w B p g t u v va a hf hl hv hu ha h
    unfold St.doE St.doT; simp only [h]; exact this
  · have := do4_any w B p g t u v va a hf hl hv hu ha h
    unfold St.doE St.doT; simp only [h]; exact this

end Go.Proofs.Ytmabbdkckdpeoaa
