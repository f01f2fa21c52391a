/- Layer 20: records read, copied and encoded. -/
import Derived.Test.YtgpdodhegacndaaKrA
namespace Go.Proofs.Ytgpdodhegacndaa
set_option linter.unusedSimpArgs false
set_option linter.unusedVariables false
open Go.RowKit

namespace Jr
def fR (s : Int) (b : List Int) : R := match first s b with | some (r, _) => r | none => ⟨0, []⟩
def fN (s : Int) (b : List Int) : Int := match first s b with | some (_, n) => (n : Nat) | none => 0
def fS (s : Int) (b : List Int) : Int := match first s b with | some (r, _) => next s r | none => 0
theorem f_none {s : Int} {b : List Int} (h : first s b = none) : fR s b = ⟨0, []⟩ ∧ fN s b = 0 ∧ fS s b = 0 ∧ (first s b).isSome = false := by unfold fR fN fS; rw [h]; exact ⟨rfl, rfl, rfl, rfl⟩
theorem f_some {s : Int} {b : List Int} {r : R} {n : Nat} (h : first s b = some (r, n)) : fR s b = r ∧ fN s b = (n : Nat) ∧ fS s b = next s r ∧ (first s b).isSome = true := by unfold fR fN fS; rw [h]; exact ⟨rfl, rfl, rfl, rfl⟩
theorem rl_none_ {b : List Int} (h : (rl b).isSome = false) : rl b = none := by cases h2 : rl b with
  | none => rfl
  | some x => rw [h2] at h; cases h
theorem rl_some_ {b : List Int} (h : (rl b).isSome = true) : ∃ n m, rl b = some (n, m) ∧ rlN b = (n : Nat) ∧ rlM b = (m : Nat) := by
  cases h2 : rl b with
  | none => rw [h2] at h; cases h
  | some x => exact ⟨x.1, x.2, rfl, by unfold rlN; rw [h2], by unfold rlM; rw [h2]⟩
theorem first_no {s : Int} {b : List Int} (h : rl b = none) : first s b = none := by unfold first; rw [h]
theorem first_short {s : Int} {b : List Int} {n m : Nat} (h : rl b = some (n, m)) (hc : ¬ m + n + 9 ≤ b.length) : first s b = none := by unfold first; rw [h]; exact if_neg fun x => hc x.1
theorem shr8 {s : Int} (hs : Ck.U64 s) (k : Nat) (hk : k < 8) : s.fdiv (2 ^ min ((8 : Int) * (k : Int)).toNat IntKind.u64.bits) = s / 2 ^ (8 * k) := by
  rw [show min ((8 : Int) * (k : Int)).toNat IntKind.u64.bits = 8 * k by show min _ 64 = _; omega]
  exact Int.fdiv_eq_ediv_of_nonneg _ (Int.le_of_lt (Int.pow_pos (by omega)))
theorem wrap8 (s : Int) (k : Nat) : IntKind.u8.wrap (s / 2 ^ (8 * k)) = Ck.byteI s k := by rw [IntKind.wrap_u8]; rfl
theorem cmp8 {b : List Int} {M : Nat} {s : Int} (hl : M + 8 ≤ b.length) : (b.drop M).take 8 = Ck.bytesI s ↔ ∀ i (hi : i < 8), b[M + i] = Ck.byteI s i := by
  constructor
  · intro h i hi
    have h2 : ((b.drop M).take 8)[i]? = (Ck.bytesI s)[i]? := by rw [h]
    rw [List.getElem?_take_of_lt hi, List.getElem?_drop, List.getElem?_eq_getElem (by omega)] at h2
    simp [Ck.bytesI, hi] at h2
    exact h2
  · intro h
    apply List.ext_getElem
    · rw [List.length_take, List.length_drop, Ck.bytesI_length]; omega
    · intro i h1 h2
      rw [Ck.bytesI_length] at h2
      rw [List.getElem_take, List.getElem_drop, h i h2]
      simp [Ck.bytesI]
theorem first_bad {s : Int} {b : List Int} {n m i : Nat} (h : rl b = some (n, m)) (hc : m + n + 9 ≤ b.length) (hi : i < 8) (hne : ¬ b[m + (1 + n) + i] = Ck.byteI (Ck.recI s b[m] ((b.drop (m + 1)).take n)) i) : first s b = none := by
  unfold first; rw [h]
  refine if_neg fun x => hne ?_
  have := (cmp8 (by omega)).1 x.2 i hi
  rw [List.getD_eq_getElem?_getD, List.getElem?_eq_getElem (by omega)] at this
  simp only [show m + 1 + n = m + (1 + n) by omega] at this
  exact this
theorem first_good {s : Int} {b : List Int} {n m : Nat} (h : rl b = some (n, m)) (hc : m + n + 9 ≤ b.length) (ha : ∀ i (hi : i < 8), b[m + (1 + n) + i] = Ck.byteI (Ck.recI s b[m] ((b.drop (m + 1)).take n)) i) :
    first s b = some (⟨b[m], (b.drop (m + 1)).take n⟩, m + n + 9) := by
  unfold first; rw [h]
  have e : b.getD m 0 = b[m] := by rw [List.getD_eq_getElem?_getD, List.getElem?_eq_getElem (by omega)]; rfl
  simp only [e]
  refine if_pos ⟨hc, (cmp8 (by omega)).2 fun i hi => ?_⟩
  have := ha i hi
  simp only [show m + (1 + n) = m + 1 + n by omega] at this
  exact this
theorem ge8 {b : List Int} {M k : Nat} {s : Int} (hl : M + 8 ≤ b.length) (h : ∀ i (hi : i < 8), i < k → b[M + i] = Ck.byteI s i) (hk : k < 8) (he : b[M + k] = Ck.byteI s k) : ∀ i (hi : i < 8), i < k + 1 → b[M + i] = Ck.byteI s i := fun i hi h4 => by
  by_cases h2 : i = k
  · subst h2; exact he
  · exact h i hi (by omega)
end Jr
/-- a part of what is read -/
theorem Rd.part {w : World} {A : Option Addr} {b : List Int} (h : Rd w A (b.map (.int .u8))) (c m n : Nat) (hc : b.length ≤ c) : Rd w (cutA A c m 1) (((b.drop m).take n).map (.int .u8)) := by
  have := h.cut (size := 1) c m (by rw [List.length_map]; omega)
  rw [Nat.mul_one, ← List.map_drop] at this
  exact this.take n
theorem cutA_blk {A : Option Addr} {c m : Nat} {ad : Addr} (h : cutA A c m 1 = some ad) : ∃ ad0, A = some ad0 ∧ ad.block = ad0.block := by
  unfold cutA at h
  split at h
  · exact ⟨ad, h, rfl⟩
  · cases A with
    | none => cases h
    | some a => injection h with h; exact ⟨a, rfl, by
      rw [← h]
      show (a.add (m * 1)).block = a.block
      unfold Addr.add
      split <;> rfl⟩

set_option maxRecDepth 100000 in
set_option maxHeartbeats 1000000 in
theorem readRecord_any (w : World) (A : Option Addr) (b : List Int) (c : Nat) (s : Int) (h : Rd w A (b.map (.int .u8))) (hb : Ck.Bts b) (hl : b.length ≤ 1000000) (hc : b.length ≤ c) : Calls Try.prog 20 #[.slice A b.length c, .int .u64 s] w fun e_ w' => ∃ A' c', e_ = .returned (.tuple #[.agg #[.int .u8 (Jr.fR s b).k, .slice A' (Jr.fR s b).b.length c'], .int .u64 (Jr.fS s b), .int .i64 (Jr.fN s b), .bool (Jr.first s b).isSome]) ∧ Rd w' A' ((Jr.fR s b).b.map (.int .u8)) ∧ (Jr.fR s b).b.length ≤ c' ∧ (∀ ad, A' = some ad → ∃ ad0, A = some ad0 ∧ ad.block = ad0.block) ∧ Below w.heap.size w w' := by
  refine Fw.calls Try.func20 rfl Try.ntmps20 rfl ?_
  have HB := Below.refl (w.heap.size) w
  refine Fw.seq fun _ hK1 => ?_
  refine Fw.region ?_
  refine Fw.alloc ze64 rfl ?_
  intro w1 gXr egXr HXr hb
  have lgXr : w.heap.size ≤ gXr := by have := HB.size; omega
  replace HB := HB.trans (hb.mono HB.size)
  clear hb
  clear egXr
  refine Fw.s (Fw.val_assign rfl) rfl ?_
  refine Fw.s (Fw.val_assign rfl) rfl ?_
  refine Fw.s (Fw.val_assign rfl) rfl ?_
  refine Fw.nil ?_
  refine hK1 _ _ ?_
  refine Fw.seq fun _ hK2 => ?_
  refine Fw.region ?_
  refine Fw.s (Fw.val_move rfl) rfl ?_
  refine Fw.call cf36 rfl rfl (readLength_any _ A b c (h.low HB) hb hl hc) ?_
  rintro e_ w2 ⟨rfl, hb_⟩
  refine ⟨_, rfl, ?_⟩
  have hb1_ := hb_
  replace HXr := HXr.low hb_
  replace HB := HB.trans (hb_.mono HB.size)
  clear hb_
  refine Fw.s (Fw.val_move rfl) rfl ?_
  refine Fw.s (Fw.val_extract rfl rfl) rfl ?_
  refine Fw.s (Fw.val_extract rfl rfl) rfl ?_
  refine Fw.s (Fw.val_extract rfl rfl) rfl ?_
  refine Fw.b2 ?_ ?_
  · rintro ho
    refine Fw.s (Fw.val_assign rfl) rfl ?_
    refine Fw.s (Fw.val_assign rfl) rfl ?_
    refine Fw.s (Fw.val_assign rfl) rfl ?_
    refine Fw.nil ?_
    refine hK2 _ _ (Fw.FC.sub (f' := [(10, _), (9, _), (8, _), (4, _), (0, _), (1, _)]) (.cons rfl (.cons rfl (.cons rfl (.cons rfl (.cons rfl (.cons rfl .nil)))))) ?_)
    refine Fw.seq fun _ hK3 => ?_
    refine Fw.seq fun _ hK4 => ?_
    obtain ⟨n, m, hr, e1, e2⟩ := Jr.rl_some_ ho
    rw [e1, e2]
    obtain ⟨q1, q2, q3, q4⟩ := Jr.rl_some hb hr
    refine Fw.region ?_
    refine Fw.s (Fw.val_move rfl) rfl ?_
    refine Fw.s (Fw.val_not rfl) rfl ?_
    refine Fw.s (Fw.val_move rfl) rfl ?_
    refine Fw.gT (d := 23) rfl rfl ?_
    refine Fw.s (Fw.val_move rfl) rfl ?_
    refine Fw.gT (d := 23) rfl rfl ?_
    refine Fw.s (Fw.val_len Try.underlying56 rfl) rfl ?_
    refine Fw.gT (d := 23) rfl rfl ?_
    refine Fw.s (Fw.val_move rfl) rfl ?_
    refine Fw.gT (d := 23) rfl rfl ?_
    refine Fw.s (Fw.val_bin rfl rfl (Fw.b_sub (Fw.i64_ok (by omega)))) rfl ?_
    refine Fw.gT (d := 23) rfl rfl ?_
    refine Fw.s (Fw.val_move rfl) rfl ?_
    refine Fw.gT (d := 23) rfl rfl ?_
    refine Fw.s (Fw.val_bin rfl rfl (Fw.b_add (Fw.i64_ok (by omega)))) rfl ?_
    refine Fw.gT (d := 23) rfl rfl ?_
    refine Fw.s (Fw.val_bin rfl rfl (Fw.b_add (Fw.i64_ok (by omega)))) rfl ?_
    refine Fw.gT (d := 23) rfl rfl ?_
    refine Fw.s2 (Fw.val_bin rfl rfl Fw.b_lss) rfl ?_ ?_
    · rintro hs
      refine Fw.s (Fw.val_pickF rfl rfl) rfl ?_
      refine Fw.nil ?_
      refine hK4 _ _ (Fw.FC.sub (f' := [(32, _), (9, _), (8, _), (4, _), (0, _), (1, _)]) (.cons rfl (.cons rfl (.cons rfl (.cons rfl (.cons rfl (.cons rfl .nil)))))) ?_)
      refine Fw.condT rfl ?_
      refine Fw.seq fun _ hK6 => ?_
      refine Fw.region ?_
      refine Fw.s (Fw.val_build (ps := []) rfl (bu64_)) rfl ?_
      refine Fw.storeW sz64 rfl rfl HXr rfl rfl (by exact Fw.oneCells rfl) ?_
      intro w3 N_ hc
      replace HB := HB.trans (hc.below (B := w.heap.size) (fun k e => by omega) HB.size)
      clear hc
      clear HXr
      have HXr := N_
      clear N_
      refine Fw.s (Fw.val_assign rfl) rfl ?_
      refine Fw.s (Fw.val_assign rfl) rfl ?_
      refine Fw.s (Fw.val_assign rfl) rfl ?_
      refine Fw.nil ?_
      refine hK6 _ _ ?_
      refine Fw.ret ?_
      refine Fw.X_ret ?_
      refine Fw.ret_ [.cell 4 64, .tmp 5, .tmp 6, .tmp 7] [_, _, _, _] Try.results20 (Fw.ResL.cellM rfl ag64 (Fw.rdBlk HXr) rfl (.tmp rfl (.tmp rfl (.tmp rfl .nil)))) ?_
      have hf : Jr.first s b = none := Jr.first_short hr (by omega)
      obtain ⟨z1, z2, z3, z4⟩ := Jr.f_none hf
      rw [z1, z2, z3, z4]
      refine ⟨none, 0, rfl, Rd.nil _ _, Nat.le_refl _, fun ad e => (by cases e), HB⟩
    · rintro hs
      refine Fw.s (Fw.val_pickF rfl rfl) rfl ?_
      refine Fw.nil ?_
      refine hK4 _ _ (Fw.FC.sub (f' := [(32, _), (9, _), (8, _), (4, _), (0, _), (1, _)]) (.cons rfl (.cons rfl (.cons rfl (.cons rfl (.cons rfl (.cons rfl .nil)))))) ?_)
      refine Fw.condF rfl ?_
      refine Fw.skip ?_
      refine hK3 _ _ ?_
      refine Fw.seq fun _ hK7 => ?_
      have hmn : m < b.length := by omega
      obtain ⟨ad, b_, o_, hA, hadd, HE⟩ := Fw.rdAtM (h.low HB) m hmn
      have hbn : ((b.drop (m + 1)).take n).length = n := by rw [List.length_take, List.length_drop]; omega
      have hS : Ck.U64 (Ck.recI s b[m] ((b.drop (m + 1)).take n)) := Jr.recI_U64 _ _ _
      refine Fw.region ?_
      refine Fw.s (Fw.val_move rfl) rfl ?_
      refine Fw.s (Fw.val_move rfl) rfl ?_
      refine Fw.s (Fw.val_indexR Try.underlying56 sz5 rfl hA rfl rfl hmn hadd) rfl ?_
      refine Fw.ld sc5 rfl (HE) rfl ?_
      refine Fw.s (Fw.val_assign rfl) rfl ?_
      refine Fw.nil ?_
      refine hK7 _ _ ?_
      refine Fw.seq fun _ hK9 => ?_
      refine Fw.region ?_
      refine Fw.s (Fw.val_move rfl) rfl ?_
      refine Fw.s (Fw.val_move rfl) rfl ?_
      refine Fw.s (Fw.val_bin rfl rfl (Fw.b_add (Fw.i64_ok (by omega)))) rfl ?_
      refine Fw.s (Fw.val_move rfl) rfl ?_
      refine Fw.s (Fw.val_bin rfl rfl (Fw.b_add (Fw.i64_ok (by omega)))) rfl ?_
      refine Fw.s (Fw.val_move rfl) rfl ?_
      refine Fw.s (Fw.val_bin rfl rfl (Fw.b_add (Fw.i64_ok (by omega)))) rfl ?_
      refine Fw.s (Fw.val_sliceLH (l := m + 1) (h := m + 1 + n) (m := n) Try.underlying56 sz5 rfl rfl rfl (by omega) (by omega) (by omega) (by omega) (by omega)) rfl ?_
      refine Fw.s (Fw.val_assign rfl) rfl ?_
      refine Fw.nil ?_
      refine hK9 _ _ (Fw.FC.sub (f' := [(12, _), (11, _), (9, _), (8, _), (4, _), (0, _), (1, _)]) (.cons rfl (.cons rfl (.cons rfl (.cons rfl (.cons rfl (.cons rfl (.cons rfl .nil))))))) ?_)
      refine Fw.seq fun _ hK10 => ?_
      refine Fw.region ?_
      refine Fw.s (Fw.val_move rfl) rfl ?_
      refine Fw.s (Fw.val_move rfl) rfl ?_
      refine Fw.s (Fw.val_bin rfl rfl (Fw.b_add (Fw.i64_ok (by omega)))) rfl ?_
      refine Fw.s (Fw.val_bin rfl rfl (Fw.b_add (Fw.i64_ok (by omega)))) rfl ?_
      refine Fw.s (Fw.val_assign rfl) rfl ?_
      refine Fw.nil ?_
      refine hK10 _ _ ?_
      refine Fw.seq fun _ hK11 => ?_
      refine Fw.region ?_
      refine Fw.s (Fw.val_move rfl) rfl ?_
      refine Fw.s (Fw.val_move rfl) rfl ?_
      refine Fw.s (Fw.val_move rfl) rfl ?_
      refine Fw.call cf37 rfl rfl (by have := chain_any s b[m] (cutA A c (m + 1) 1) ((b.drop (m + 1)).take n) (c - (m + 1)) _ ((h.low HB).part c (m + 1) n hc) (by rw [hbn]; unfold maxLen; omega); rw [hbn] at this; exact this) ?_
      rintro e_ _ ⟨rfl, rfl⟩
      refine ⟨_, rfl, ?_⟩
      refine Fw.s (Fw.val_assign rfl) rfl ?_
      refine Fw.nil ?_
      refine hK11 _ _ (Fw.FC.sub (f' := [(13, _), (9, _), (12, _), (11, _), (4, _), (0, _)]) (.cons rfl (.cons rfl (.cons rfl (.cons rfl (.cons rfl (.cons rfl .nil)))))) ?_)
      refine Fw.seq fun _ hK12 => ?_
      refine Fw.seq fun _ hK13 => ?_
      refine Fw.region ?_
      refine Fw.s (Fw.val_move rfl) rfl ?_
      refine Fw.nil ?_
      refine hK13 _ _ ?_
      refine Fw.block ?_
      refine Fw.loop (fun m_ f_ W_ => ∃ (k : Nat), m_ = 8 - k ∧ k ≤ 8 ∧ (∀ i (hi : i < 8), i < k → b[m + (1 + n) + i] = Ck.byteI (Ck.recI s b[m] ((b.drop (m + 1)).take n)) i) ∧ Blk W_ gXr 64 #[.int .u8 0, .slice none 0 0] ∧ Below (w.heap.size) w W_ ∧ f_ = [(54, .int .i64 k), (13, .int .u64 (Ck.recI s b[m] ((b.drop (m + 1)).take n))), (9, .int .i64 ((m + (1 + n) : Nat) : Int)), (12, .slice (cutA A c (m + 1) 1) n (c - (m + 1))), (11, .int .u8 b[m]), (4, .pointer (some ⟨gXr, 0, none⟩)), (0, .slice A b.length c)]) ⟨_, _, ⟨0, rfl, Nat.zero_le _, fun i hi h_ => absurd h_ (Nat.not_lt_zero _), HXr, HB, rfl⟩, (.cons rfl (.cons rfl (.cons rfl (.cons rfl (.cons rfl (.cons rfl (.cons rfl .nil)))))))⟩ ?_
      clear HXr HB
      rintro m14_ _ w4 ⟨k, hm14_, hkl, hge, HXr, HB, rfl⟩
      refine Fw.seq fun _ hK15 => ?_
      refine Fw.region ?_
      refine Fw.s2 (Fw.val_bin rfl rfl Fw.b_lss) rfl ?_ ?_
      · rintro hk
        refine Fw.nil ?_
        refine hK15 _ _ ?_
        refine Fw.seq fun _ hK17 => ?_
        refine Fw.condT rfl ?_
        refine Fw.skip ?_
        refine hK17 _ _ ?_
        refine Fw.seq fun _ hK18 => ?_
        refine Fw.block ?_
        refine Fw.seq fun _ hK19 => ?_
        refine Fw.region ?_
        refine Fw.s (Fw.val_move rfl) rfl ?_
        refine Fw.s (Fw.val_assign rfl) rfl ?_
        refine Fw.nil ?_
        refine hK19 _ _ ?_
        refine Fw.seq fun _ hK20 => ?_
        have hk8 : k < 8 := by omega
        have hmk : m + (1 + n) + k < b.length := by omega
        obtain ⟨ad2, b2_, o2_, hA2, hadd2, HE2⟩ := Fw.rdAtM (h.low HB) (m + (1 + n) + k) hmk
        refine Fw.regionQ (by kernel_rfl) (by kernel_rfl) ?_
        refine Fw.q (Fw.val_move rfl) rfl ?_
        refine Fw.q (Fw.val_move rfl) rfl ?_
        refine Fw.q (Fw.val_move rfl) rfl ?_
        refine Fw.q (Fw.val_bin rfl rfl (Fw.b_add (Fw.i64_ok (by omega)))) rfl ?_
        refine Fw.q (Fw.val_indexR Try.underlying56 sz5 rfl hA2 rfl (by omega) hmk hadd2) rfl ?_
        refine Fw.ldQ sc5 rfl (HE2) rfl ?_
        refine Fw.q (Fw.val_move rfl) rfl ?_
        refine Fw.q (Fw.val_move rfl) rfl ?_
        refine Fw.q (Fw.val_bin rfl rfl (Fw.b_mul (Fw.i64_ok (by omega)))) rfl ?_
        refine Fw.q (Fw.val_bin rfl rfl (Fw.b_shr (by omega) (Jr.shr8 hS k hk8))) rfl ?_
        refine Fw.q (Fw.val_conv Try.underlying51 Try.underlying5 rfl (Jr.wrap8 _ k)) rfl ?_
        refine Fw.q2 (Fw.val_bin rfl rfl Fw.b_neq) rfl ?_ ?_
        · rintro h68
          refine Fw.nilQ ?_
          intro w5 hb
          clear HE2
          replace HXr := HXr.low hb
          replace HB := HB.trans (hb.mono HB.size)
          clear hb
          refine hK20 _ _ (Fw.FC.sub (f' := [(68, _), (54, _), (13, _), (9, _), (12, _), (11, _), (4, _), (0, _)]) (.cons rfl (.cons rfl (.cons rfl (.cons rfl (.cons rfl (.cons rfl (.cons rfl (.cons rfl .nil)))))))) ?_)
          refine Fw.condT rfl ?_
          refine Fw.seq fun _ hK23 => ?_
          refine Fw.region ?_
          refine Fw.s (Fw.val_build (ps := []) rfl (bu64_)) rfl ?_
          refine Fw.storeW sz64 rfl rfl HXr rfl rfl (by exact Fw.oneCells rfl) ?_
          intro w6 N_ hc
          replace HB := HB.trans (hc.below (B := w.heap.size) (fun k e => by omega) HB.size)
          clear hc
          clear HXr
          have HXr := N_
          clear N_
          refine Fw.s (Fw.val_assign rfl) rfl ?_
          refine Fw.s (Fw.val_assign rfl) rfl ?_
          refine Fw.s (Fw.val_assign rfl) rfl ?_
          refine Fw.nil ?_
          refine hK23 _ _ (Fw.FC.sub (f' := [(7, _), (6, _), (5, _), (4, _)]) (.cons rfl (.cons rfl (.cons rfl (.cons rfl .nil)))) ?_)
          refine Fw.ret ?_
          refine Fw.X_blockR ?_
          refine Fw.X_ret ?_
          refine Fw.X_ret ?_
          refine Fw.X_blockR ?_
          refine Fw.X_ret ?_
          refine Fw.ret_ [.cell 4 64, .tmp 5, .tmp 6, .tmp 7] [_, _, _, _] Try.results20 (Fw.ResL.cellM rfl ag64 (Fw.rdBlk HXr) rfl (.tmp rfl (.tmp rfl (.tmp rfl .nil)))) ?_
          have hf : Jr.first s b = none := Jr.first_bad hr (by omega) hk8 h68
          obtain ⟨z1, z2, z3, z4⟩ := Jr.f_none hf
          rw [z1, z2, z3, z4]
          refine ⟨none, 0, rfl, Rd.nil _ _, Nat.le_refl _, fun ad e => (by cases e), HB⟩
        · rintro h68
          refine Fw.nilQ ?_
          intro w7 hb
          replace HXr := HXr.low hb
          replace HE2 := (hb.cell (World.block_lt_of_cell? _ _ HE2)).trans HE2
          replace HB := HB.trans (hb.mono HB.size)
          clear hb
          refine hK20 _ _ (Fw.FC.sub (f' := [(68, _), (54, _), (13, _), (9, _), (12, _), (11, _), (4, _), (0, _)]) (.cons rfl (.cons rfl (.cons rfl (.cons rfl (.cons rfl (.cons rfl (.cons rfl (.cons rfl .nil)))))))) ?_)
          refine Fw.condF rfl ?_
          refine Fw.skip ?_
          refine Fw.X_blockN ?_
          refine hK18 _ _ ?_
          refine Fw.region ?_
          refine Fw.s (Fw.val_bin rfl rfl (Fw.b_add (Fw.i64_ok (by omega)))) rfl ?_
          refine Fw.s (Fw.val_move rfl) rfl ?_
          refine Fw.nil ?_
          refine Fw.roundEnd _ _ (by omega) ⟨k + 1, rfl, by omega, Jr.ge8 (by omega) hge hk8 (by omega), HXr, HB, rfl⟩ (.cons rfl (.cons rfl (.cons rfl (.cons rfl (.cons rfl (.cons rfl (.cons rfl .nil)))))))
      · rintro hk
        refine Fw.nil ?_
        refine hK15 _ _ ?_
        refine Fw.seq fun _ hK24 => ?_
        refine Fw.condF rfl ?_
        refine Fw.exit ?_
        refine Fw.X_exit ?_
        refine Fw.X_exit ?_
        refine Fw.X_block ?_
        refine hK12 _ _ ?_
        refine Fw.seq fun _ hK25 => ?_
        refine Fw.region ?_
        refine Fw.s (Fw.val_move rfl) rfl ?_
        refine Fw.s (Fw.val_move rfl) rfl ?_
        refine Fw.s (Fw.val_build (ps := [(0, _), (1, _)]) rfl (bu64_0_1 _ _ _ _)) rfl ?_
        refine Fw.s (Fw.val_move rfl) rfl ?_
        refine Fw.s (Fw.val_move rfl) rfl ?_
        refine Fw.s (Fw.val_bin rfl rfl (Fw.b_add (Fw.i64_ok (by omega)))) rfl ?_
        refine Fw.storeW sz64 rfl rfl HXr rfl rfl (by exact Fw.oneCells rfl) ?_
        intro w8 N_ hc
        replace HB := HB.trans (hc.below (B := w.heap.size) (fun k e => by omega) HB.size)
        clear hc
        clear HXr
        have HXr := N_
        clear N_
        refine Fw.s (Fw.val_assign rfl) rfl ?_
        refine Fw.s (Fw.val_assign rfl) rfl ?_
        refine Fw.s (Fw.val_assign rfl) rfl ?_
        refine Fw.nil ?_
        refine hK25 _ _ (Fw.FC.sub (f' := [(7, _), (6, _), (5, _), (4, _)]) (.cons rfl (.cons rfl (.cons rfl (.cons rfl .nil)))) ?_)
        refine Fw.ret ?_
        refine Fw.ret_ [.cell 4 64, .tmp 5, .tmp 6, .tmp 7] [_, _, _, _] Try.results20 (Fw.ResL.cellM rfl ag64 (Fw.rdBlk HXr) rfl (.tmp rfl (.tmp rfl (.tmp rfl .nil)))) ?_
        obtain rfl : k = 8 := by omega
        have hf := Jr.first_good hr (by omega) (fun i hi => hge i hi hi)
        obtain ⟨z1, z2, z3, z4⟩ := Jr.f_some hf
        rw [z1, z2, z3, z4]
        simp only [hbn]
        refine ⟨cutA A c (m + 1) 1, c - (m + 1), by rw [show ((m + n + 9 : Nat) : Int) = ((m + (1 + n) : Nat) : Int) + 8 by omega]; rfl, (h.low HB).part c (m + 1) n hc, by omega, fun ad e => cutA_blk e, HB⟩
  · rintro ho
    refine Fw.s (Fw.val_assign rfl) rfl ?_
    refine Fw.s (Fw.val_assign rfl) rfl ?_
    refine Fw.s (Fw.val_assign rfl) rfl ?_
    refine Fw.nil ?_
    refine hK2 _ _ (Fw.FC.sub (f' := [(10, _), (9, _), (8, _), (4, _), (0, _), (1, _)]) (.cons rfl (.cons rfl (.cons rfl (.cons rfl (.cons rfl (.cons rfl .nil)))))) ?_)
    refine Fw.seq fun _ hK26 => ?_
    refine Fw.seq fun _ hK27 => ?_
    have hr := Jr.rl_none_ ho
    refine Fw.region ?_
    refine Fw.s (Fw.val_move rfl) rfl ?_
    refine Fw.s (Fw.val_not rfl) rfl ?_
    refine Fw.s (Fw.val_move rfl) rfl ?_
    refine Fw.gF (d := 23) rfl rfl rfl rfl ?_
    refine Fw.gF (d := 23) rfl rfl rfl rfl ?_
    refine Fw.gF (d := 23) rfl rfl rfl rfl ?_
    refine Fw.gF (d := 23) rfl rfl rfl rfl ?_
    refine Fw.gF (d := 23) rfl rfl rfl rfl ?_
    refine Fw.gF (d := 23) rfl rfl rfl rfl ?_
    refine Fw.gF (d := 23) rfl rfl rfl rfl ?_
    refine Fw.gF (d := 23) rfl rfl rfl rfl ?_
    refine Fw.s (Fw.val_pickT rfl rfl) rfl ?_
    refine Fw.nil ?_
    refine hK27 _ _ (Fw.FC.sub (f' := [(32, _), (9, _), (8, _), (4, _), (0, _), (1, _)]) (.cons rfl (.cons rfl (.cons rfl (.cons rfl (.cons rfl (.cons rfl .nil)))))) ?_)
    refine Fw.condT rfl ?_
    refine Fw.seq fun _ hK28 => ?_
    refine Fw.region ?_
    refine Fw.s (Fw.val_build (ps := []) rfl (bu64_)) rfl ?_
    refine Fw.storeW sz64 rfl rfl HXr rfl rfl (by exact Fw.oneCells rfl) ?_
    intro w9 N_ hc
    replace HB := HB.trans (hc.below (B := w.heap.size) (fun k e => by omega) HB.size)
    clear hc
    clear HXr
    have HXr := N_
    clear N_
    refine Fw.s (Fw.val_assign rfl) rfl ?_
    refine Fw.s (Fw.val_assign rfl) rfl ?_
    refine Fw.s (Fw.val_assign rfl) rfl ?_
    refine Fw.nil ?_
    refine hK28 _ _ ?_
    refine Fw.ret ?_
    refine Fw.X_ret ?_
    refine Fw.ret_ [.cell 4 64, .tmp 5, .tmp 6, .tmp 7] [_, _, _, _] Try.results20 (Fw.ResL.cellM rfl ag64 (Fw.rdBlk HXr) rfl (.tmp rfl (.tmp rfl (.tmp rfl .nil)))) ?_
    have hf : Jr.first s b = none := Jr.first_no hr
    obtain ⟨z1, z2, z3, z4⟩ := Jr.f_none hf
    rw [z1, z2, z3, z4]
    refine ⟨none, 0, rfl, Rd.nil _ _, Nat.le_refl _, fun ad e => (by cases e), HB⟩

set_option maxRecDepth 100000 in
set_option maxHeartbeats 1000000 in
theorem clone_any (w : World) (k : Int) (A : Option Addr) (b : List Int) (c : Nat) (h : Rd w A (b.map (.int .u8))) (hl : b.length ≤ 1000000) : Calls Try.prog 21 #[.agg #[.int .u8 k, .slice A b.length c]] w fun e_ w' => ∃ A' c', e_ = .returned (.agg #[.int .u8 k, .slice A' b.length c']) ∧ w'.ownsRow w.heap.size 5 1 (.slice A' b.length c') b.length (b.map (.int .u8)) ∧ Below w.heap.size w w' := by
  refine Fw.calls Try.func21 rfl Try.ntmps21 rfl ?_
  have HB := Below.refl (w.heap.size) w
  refine Fw.seq fun _ hK1 => ?_
  refine Fw.region ?_
  refine Fw.box rfl rfl ?_
  intro w1 gXr egXr HXr hb
  have lgXr : w.heap.size ≤ gXr := by have := HB.size; omega
  replace HB := HB.trans (hb.mono HB.size)
  clear hb
  clear egXr
  refine Fw.alloc ze64 rfl ?_
  intro w2 gXs egXs HXs hb
  have n_gXr_gXs : gXr < gXs := by have := HXr.lt; omega
  have lgXs : w.heap.size ≤ gXs := by have := HB.size; omega
  replace HXr := HXr.low hb
  replace HB := HB.trans (hb.mono HB.size)
  clear hb
  clear egXs
  refine Fw.nil ?_
  refine hK1 _ _ ?_
  refine Fw.seq fun _ hK2 => ?_
  have hXr0 := HXr.lt
  have hXs0 := HXs.lt
  have hB0 := HB.size
  refine Fw.regionHS (Chg (· = gXs) w2) (by kernel_rfl) (Chg.of_below (Fw.drew_low w2) _) ?_
  have R_HXr := HXr
  have R_HXs := HXs
  have R_HB := HB
  intro w3 hb HS
  replace HXr := HXr.low hb
  replace HXs := HXs.low hb
  replace HB := HB.trans (hb.mono HB.size)
  clear hb
  refine Fw.hTake 0 rfl rfl (by kernel_rfl) (by kernel_rfl) (by kernel_rfl) (Fw.yV (Fw.val_fieldAddr fl64_0 rfl rfl)) rfl ?_
  refine Fw.hTake 1 rfl rfl (by kernel_rfl) (by kernel_rfl) (by kernel_rfl) (Fw.yV (Fw.hLdC sc5 rfl (R_HXr.cell 0) (by show ¬ gXr = gXs; omega))) rfl ?_
  refine Fw.hTake 2 rfl rfl (by kernel_rfl) (by kernel_rfl) (by kernel_rfl) (Fw.yV (Fw.val_fieldAddr fl64_1 rfl rfl)) rfl ?_
  refine Fw.hTake 3 rfl rfl (by kernel_rfl) (by kernel_rfl) (by kernel_rfl) (Fw.yV (Fw.hLdC sc56 rfl (R_HXr.cell 1) (by show ¬ gXr = gXs; omega))) rfl ?_
  refine Fw.hAll1 4 (by kernel_rfl) ?_
  refine Fw.hOp 4 rfl ?_
  refine Fw.append (base := w.heap.size) b.length (b.map (.int .u8)) slU8 rfl rfl (World.ownsRow_nil _ _ _ _) (h.low HB) (by simp) oneCell_ints (⟨by unfold maxLen; omega, by omega⟩) HB.size (by simp) rfl rfl ?_
  intro A7 c7 w4 N_ hbb hc _
  replace HXs := HXs.chg hc (by simp [Value.ownBlock])
  replace HXr := HXr.chg hc (by simp [Value.ownBlock])
  replace HS := HS.trans hc (fun k hk_ e => by simp [Value.ownBlock] at e)
  replace HB := HB.trans hbb
  clear hbb hc
  have HO := N_
  clear N_
  refine Fw.hNext HS ?_
  refine Fw.hTake 5 rfl rfl (by kernel_rfl) (by kernel_rfl) (by kernel_rfl) (Fw.yV (Fw.val_build (ps := [(0, _), (1, _)]) rfl (bu64_0_1 _ _ _ _))) rfl ?_
  refine Fw.hAll1 6 (by kernel_rfl) ?_
  refine Fw.hOp 6 rfl ?_
  refine Fw.storeW sz64 rfl rfl HXs rfl rfl (by exact Fw.oneCells rfl) ?_
  intro w5 N_ hc
  replace HXr := HXr.chg hc (by omega)
  replace HS := HS.trans hc (fun _ _ h => h)
  replace HO := own_to HO hc (fun g_ h_ e_ => own_ne HO HXs (by decide) (by rw [h_, e_]))
  replace HB := HB.trans (hc.below (B := w.heap.size) (fun k e => by omega) HB.size)
  clear hc
  clear HXs
  have HXs := N_
  clear N_
  refine Fw.hNext HS ?_
  refine Fw.hDone (by kernel_rfl) ?_
  refine hK2 _ _ (Fw.FC.sub (f' := [(2, _)]) (.cons rfl .nil) ?_)
  refine Fw.ret ?_
  refine Fw.ret_ [.cell 2 64] [_] Try.results21 (Fw.ResL.cellM rfl ag64 (Fw.rdBlk HXs) rfl .nil) ?_
  exact ⟨_, _, rfl, HO, HB⟩

end Go.Proofs.Ytgpdodhegacndaa
