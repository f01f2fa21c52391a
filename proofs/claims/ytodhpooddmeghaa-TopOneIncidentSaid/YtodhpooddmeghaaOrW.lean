/- Layer 28: the walks of package order. -/
import Derived.Test.YtodhpooddmeghaaOr
import Derived.Deep.RegionHeld3
namespace Go.Proofs.Ytodhpooddmeghaa
set_option linter.unusedSimpArgs false
set_option linter.unusedVariables false
open Go.RowKit

namespace Or
def nums (o : O) : List Int := [o.u, o.e, o.k, o.i, o.n]
def snums (s : S) : List Int := [s.u, s.q, s.s, s.n, s.e]
def put (o : O) : List Int := if valid o then Wr.encs (nums o) else []
def say (s : S) : List Int := if fit s then Wr.encs (snums s) else []
theorem encs5 (a b c d e : Int) : Wr.encs [a, b, c, d, e] = ((((Wr.enc a ++ Wr.enc b) ++ Wr.enc c) ++ Wr.enc d) ++ Wr.enc e) := by simp [Wr.encs]
end Or
/-- a block of five numbers -/
def five (a b c d e : Int) : Array Value := #[.int .i64 a, .int .i64 b, .int .i64 c, .int .i64 d, .int .i64 e]

set_option maxRecDepth 100000 in
set_option maxHeartbeats 1000000 in
theorem encodeOrder_any (o : Or.O) (w : World) (h64 : Or.O64 o) :
    Calls Try.prog 14 #[.agg #[.int .i64 o.u, .int .i64 o.e, .int .i64 o.k, .int .i64 o.i, .int .i64 o.n]] w fun e w' => ∃ A c, e = .returned (.slice A (Or.put o).length c) ∧ Own8 w' w.heap.size A c (Or.put o) ∧ Below w.heap.size w w' := by
  obtain ⟨i0, i1, i2, i3, i4⟩ := h64
  have I0 := Lib.hid i0
  have L0 := Lib.hid (Wr.enc_len i0)
  have I1 := Lib.hid i1
  have L1 := Lib.hid (Wr.enc_len i1)
  have I2 := Lib.hid i2
  have L2 := Lib.hid (Wr.enc_len i2)
  have I3 := Lib.hid i3
  have L3 := Lib.hid (Wr.enc_len i3)
  have I4 := Lib.hid i4
  have L4 := Lib.hid (Wr.enc_len i4)
  clear i0 i1 i2 i3 i4
  cases hv : Or.valid o with
  | false =>
    have HP := Lib.hid (show Or.put o = [] by unfold Or.put; rw [hv]; rfl)
    go_enter Try.func14, Try.ntmps14
    go_wp2_with (go_at_call 38; refine (valid_any o _).mono ?_; rw [hv]; rintro e w1 ⟨rfl, hb1⟩)
    go_ret
    rw [HP.out]
    exact ⟨none, 0, rfl, World.ownsRow_nil _ _ _ _, ((Below.refl _ _).alloc (Nat.le_refl _) _).trans (hb1.mono (by simp))⟩
  | true =>
    have HP := Lib.hid (show Or.put o = Wr.encs [o.u, o.e, o.k, o.i, o.n] by unfold Or.put; rw [hv]; rfl)
    have HV := Lib.hid hv
    clear hv
    go_enter Try.func14, Try.ntmps14
    go_wp2_with fail
    refine (valid_any o _).mono ?_
    rw [HV.out]
    rintro e w1 ⟨rfl, hb1⟩
    have HX := Lib.hid ((Blk.new w 50 (five o.u o.e o.k o.i o.n)).low hb1)
    have HB := Lib.hid (((Below.refl w.heap.size w).alloc (Nat.le_refl _) (.cells (five o.u o.e o.k o.i o.n) 50)).trans (hb1.mono (by simp)))
    have hz : w.heap.size < w1.heap.size := HX.out.lt
    clear hb1
    obtain ⟨p, hp⟩ : ∃ p, w1.heap.size = p := ⟨_, rfl⟩
    have HW0 := Lib.hid (show WrAt (w1.alloc (.cells #[.slice none 0 0] 96)) p p [] from ⟨Nat.le_refl _, none, 0, by rw [← hp]; exact Blk.new _ _ _, World.ownsRow_nil _ _ _ _⟩)
    have HX0 := Lib.hid (HX.out.alloc (.cells #[.slice none 0 0] 96))
    have hc0 := HX0.out.cell 0
    simp [five] at hc0
    have HP1 := Lib.hid hp
    have hzp : w.heap.size < p := by omega
    go_wp2_with fail
    obtain ⟨v0, hv0⟩ : ∃ v0, w1.alloc (.cells #[.slice none 0 0] 96) = v0 := ⟨_, rfl⟩
    rw [hv0] at HW0 HX0 hc0 ⊢
    have HE0 := Lib.hid hv0
    have HBP0 := Lib.hid (Below.refl p v0)
    clear hp hv0
    refine (writerInt_any _ p p [] o.u HW0.out I0.out (by simp)).mono ?_
    rintro e v1 ⟨rfl, h1, h2⟩
    have HW1 := Lib.hid (show WrAt v1 p p ((Wr.enc o.u)) from h1)
    have HX1 := Lib.hid (HX0.out.below h2 hzp)
    have HBP1 := Lib.hid (HBP0.out.trans h2)
    clear h1 h2 hc0
    have hc1 := HX1.out.cell 1
    simp [five] at hc1
    go_wp2_with fail
    refine (writerInt_any _ p p (Wr.enc o.u) o.e HW1.out I1.out (by (try simp only [List.length_append]); have := L0.out; omega)).mono ?_
    rintro e v2 ⟨rfl, h1, h2⟩
    have HW2 := Lib.hid (show WrAt v2 p p (((Wr.enc o.u) ++ Wr.enc o.e)) from h1)
    have HX2 := Lib.hid (HX1.out.below h2 hzp)
    have HBP2 := Lib.hid (HBP1.out.trans h2)
    clear h1 h2 hc1
    have hc2 := HX2.out.cell 2
    simp [five] at hc2
    go_wp2_with fail
    refine (writerInt_any _ p p ((Wr.enc o.u) ++ Wr.enc o.e) o.k HW2.out I2.out (by (try simp only [List.length_append]); have := L0.out; have := L1.out; omega)).mono ?_
    rintro e v3 ⟨rfl, h1, h2⟩
    have HW3 := Lib.hid (show WrAt v3 p p ((((Wr.enc o.u) ++ Wr.enc o.e) ++ Wr.enc o.k)) from h1)
    have HX3 := Lib.hid (HX2.out.below h2 hzp)
    have HBP3 := Lib.hid (HBP2.out.trans h2)
    clear h1 h2 hc2
    have hc3 := HX3.out.cell 3
    simp [five] at hc3
    go_wp2_with fail
    refine (writerInt_any _ p p (((Wr.enc o.u) ++ Wr.enc o.e) ++ Wr.enc o.k) o.i HW3.out I3.out (by (try simp only [List.length_append]); have := L0.out; have := L1.out; have := L2.out; omega)).mono ?_
    rintro e v4 ⟨rfl, h1, h2⟩
    have HW4 := Lib.hid (show WrAt v4 p p (((((Wr.enc o.u) ++ Wr.enc o.e) ++ Wr.enc o.k) ++ Wr.enc o.i)) from h1)
    have HX4 := Lib.hid (HX3.out.below h2 hzp)
    have HBP4 := Lib.hid (HBP3.out.trans h2)
    clear h1 h2 hc3
    have hc4 := HX4.out.cell 4
    simp [five] at hc4
    go_wp2_with fail
    refine (writerInt_any _ p p ((((Wr.enc o.u) ++ Wr.enc o.e) ++ Wr.enc o.k) ++ Wr.enc o.i) o.n HW4.out I4.out (by (try simp only [List.length_append]); have := L0.out; have := L1.out; have := L2.out; have := L3.out; omega)).mono ?_
    rintro e v5 ⟨rfl, h1, h2⟩
    have HW5 := Lib.hid (show WrAt v5 p p ((((((Wr.enc o.u) ++ Wr.enc o.e) ++ Wr.enc o.k) ++ Wr.enc o.i) ++ Wr.enc o.n)) from h1)
    have HX5 := Lib.hid (HX4.out.below h2 hzp)
    have HBP5 := Lib.hid (HBP4.out.trans h2)
    clear h1 h2 hc4
    have hc5 := HX5.out.cell 4
    simp [five] at hc5
    go_wp2_with fail
    refine (encoded_any _ p p _ HW5.out (by simp only [List.length_append]; have := L0.out; have := L1.out; have := L2.out; have := L3.out; have := L4.out; omega)).mono ?_
    rintro e v6 ⟨A, c, rfl, hown, hb⟩
    have HO := Lib.hid hown
    have HB6 := Lib.hid hb
    clear hown hb
    go_wp2
    go_ret
    have hw1 : w.heap.size ≤ v5.heap.size := by
      have h1 := HBP5.out.size
      have h2 : v0.heap.size = w1.heap.size + 1 := by rw [← HE0.out]; simp
      omega
    rw [HP.out, Or.encs5]
    refine ⟨A, c, congrArg (fun n => Ending.returned (Value.slice A n c)) (by simp only [List.length_append]; omega), own_base HO.out hw1, ?_⟩
    have h1 : Below w.heap.size w v0 := by rw [← HE0.out]; exact HB.out.alloc HB.out.size _
    exact (h1.trans (HBP5.out.mono (by omega))).trans (HB6.out.mono hw1)

set_option maxRecDepth 100000 in
set_option maxHeartbeats 1000000 in
theorem encodeStatus_any (s : Or.S) (w : World) (h64 : Or.S64 s) :
    Calls Try.prog 18 #[.agg #[.int .i64 s.u, .int .i64 s.q, .int .i64 s.s, .int .i64 s.n, .int .i64 s.e]] w fun e w' => ∃ A c, e = .returned (.slice A (Or.say s).length c) ∧ Own8 w' w.heap.size A c (Or.say s) ∧ Below w.heap.size w w' := by
  obtain ⟨i0, i1, i2, i3, i4⟩ := h64
  have I0 := Lib.hid i0
  have L0 := Lib.hid (Wr.enc_len i0)
  have I1 := Lib.hid i1
  have L1 := Lib.hid (Wr.enc_len i1)
  have I2 := Lib.hid i2
  have L2 := Lib.hid (Wr.enc_len i2)
  have I3 := Lib.hid i3
  have L3 := Lib.hid (Wr.enc_len i3)
  have I4 := Lib.hid i4
  have L4 := Lib.hid (Wr.enc_len i4)
  clear i0 i1 i2 i3 i4
  cases hv : Or.fit s with
  | false =>
    have HP := Lib.hid (show Or.say s = [] by unfold Or.say; rw [hv]; rfl)
    go_enter Try.func18, Try.ntmps18
    go_wp2_with (go_at_call 49; refine (vstatus_any s _).mono ?_; rw [hv]; rintro e w1 ⟨rfl, hb1⟩)
    go_ret
    rw [HP.out]
    exact ⟨none, 0, rfl, World.ownsRow_nil _ _ _ _, ((Below.refl _ _).alloc (Nat.le_refl _) _).trans (hb1.mono (by simp))⟩
  | true =>
    have HP := Lib.hid (show Or.say s = Wr.encs [s.u, s.q, s.s, s.n, s.e] by unfold Or.say; rw [hv]; rfl)
    have HV := Lib.hid hv
    clear hv
    go_enter Try.func18, Try.ntmps18
    go_wp2_with fail
    refine (vstatus_any s _).mono ?_
    rw [HV.out]
    rintro e w1 ⟨rfl, hb1⟩
    have HX := Lib.hid ((Blk.new w 60 (five s.u s.q s.s s.n s.e)).low hb1)
    have HB := Lib.hid (((Below.refl w.heap.size w).alloc (Nat.le_refl _) (.cells (five s.u s.q s.s s.n s.e) 60)).trans (hb1.mono (by simp)))
    have hz : w.heap.size < w1.heap.size := HX.out.lt
    clear hb1
    obtain ⟨p, hp⟩ : ∃ p, w1.heap.size = p := ⟨_, rfl⟩
    have HW0 := Lib.hid (show WrAt (w1.alloc (.cells #[.slice none 0 0] 96)) p p [] from ⟨Nat.le_refl _, none, 0, by rw [← hp]; exact Blk.new _ _ _, World.ownsRow_nil _ _ _ _⟩)
    have HX0 := Lib.hid (HX.out.alloc (.cells #[.slice none 0 0] 96))
    have hc0 := HX0.out.cell 0
    simp [five] at hc0
    have HP1 := Lib.hid hp
    have hzp : w.heap.size < p := by omega
    go_wp2_with fail
    obtain ⟨v0, hv0⟩ : ∃ v0, w1.alloc (.cells #[.slice none 0 0] 96) = v0 := ⟨_, rfl⟩
    rw [hv0] at HW0 HX0 hc0 ⊢
    have HE0 := Lib.hid hv0
    have HBP0 := Lib.hid (Below.refl p v0)
    clear hp hv0
    refine (writerInt_any _ p p [] s.u HW0.out I0.out (by simp)).mono ?_
    rintro e v1 ⟨rfl, h1, h2⟩
    have HW1 := Lib.hid (show WrAt v1 p p ((Wr.enc s.u)) from h1)
    have HX1 := Lib.hid (HX0.out.below h2 hzp)
    have HBP1 := Lib.hid (HBP0.out.trans h2)
    clear h1 h2 hc0
    have hc1 := HX1.out.cell 1
    simp [five] at hc1
    go_wp2_with fail
    refine (writerInt_any _ p p (Wr.enc s.u) s.q HW1.out I1.out (by (try simp only [List.length_append]); have := L0.out; omega)).mono ?_
    rintro e v2 ⟨rfl, h1, h2⟩
    have HW2 := Lib.hid (show WrAt v2 p p (((Wr.enc s.u) ++ Wr.enc s.q)) from h1)
    have HX2 := Lib.hid (HX1.out.below h2 hzp)
    have HBP2 := Lib.hid (HBP1.out.trans h2)
    clear h1 h2 hc1
    have hc2 := HX2.out.cell 2
    simp [five] at hc2
    go_wp2_with fail
    refine (writerInt_any _ p p ((Wr.enc s.u) ++ Wr.enc s.q) s.s HW2.out I2.out (by (try simp only [List.length_append]); have := L0.out; have := L1.out; omega)).mono ?_
    rintro e v3 ⟨rfl, h1, h2⟩
    have HW3 := Lib.hid (show WrAt v3 p p ((((Wr.enc s.u) ++ Wr.enc s.q) ++ Wr.enc s.s)) from h1)
    have HX3 := Lib.hid (HX2.out.below h2 hzp)
    have HBP3 := Lib.hid (HBP2.out.trans h2)
    clear h1 h2 hc2
    have hc3 := HX3.out.cell 3
    simp [five] at hc3
    go_wp2_with fail
    refine (writerInt_any _ p p (((Wr.enc s.u) ++ Wr.enc s.q) ++ Wr.enc s.s) s.n HW3.out I3.out (by (try simp only [List.length_append]); have := L0.out; have := L1.out; have := L2.out; omega)).mono ?_
    rintro e v4 ⟨rfl, h1, h2⟩
    have HW4 := Lib.hid (show WrAt v4 p p (((((Wr.enc s.u) ++ Wr.enc s.q) ++ Wr.enc s.s) ++ Wr.enc s.n)) from h1)
    have HX4 := Lib.hid (HX3.out.below h2 hzp)
    have HBP4 := Lib.hid (HBP3.out.trans h2)
    clear h1 h2 hc3
    have hc4 := HX4.out.cell 4
    simp [five] at hc4
    go_wp2_with fail
    refine (writerInt_any _ p p ((((Wr.enc s.u) ++ Wr.enc s.q) ++ Wr.enc s.s) ++ Wr.enc s.n) s.e HW4.out I4.out (by (try simp only [List.length_append]); have := L0.out; have := L1.out; have := L2.out; have := L3.out; omega)).mono ?_
    rintro e v5 ⟨rfl, h1, h2⟩
    have HW5 := Lib.hid (show WrAt v5 p p ((((((Wr.enc s.u) ++ Wr.enc s.q) ++ Wr.enc s.s) ++ Wr.enc s.n) ++ Wr.enc s.e)) from h1)
    have HX5 := Lib.hid (HX4.out.below h2 hzp)
    have HBP5 := Lib.hid (HBP4.out.trans h2)
    clear h1 h2 hc4
    have hc5 := HX5.out.cell 4
    simp [five] at hc5
    go_wp2_with fail
    refine (encoded_any _ p p _ HW5.out (by simp only [List.length_append]; have := L0.out; have := L1.out; have := L2.out; have := L3.out; have := L4.out; omega)).mono ?_
    rintro e v6 ⟨A, c, rfl, hown, hb⟩
    have HO := Lib.hid hown
    have HB6 := Lib.hid hb
    clear hown hb
    go_wp2
    go_ret
    have hw1 : w.heap.size ≤ v5.heap.size := by
      have h1 := HBP5.out.size
      have h2 : v0.heap.size = w1.heap.size + 1 := by rw [← HE0.out]; simp
      omega
    rw [HP.out, Or.encs5]
    refine ⟨A, c, congrArg (fun n => Ending.returned (Value.slice A n c)) (by simp only [List.length_append]; omega), own_base HO.out hw1, ?_⟩
    have h1 : Below w.heap.size w v0 := by rw [← HE0.out]; exact HB.out.alloc HB.out.size _
    exact (h1.trans (HBP5.out.mono (by omega))).trans (HB6.out.mono hw1)
end Go.Proofs.Ytodhpooddmeghaa
