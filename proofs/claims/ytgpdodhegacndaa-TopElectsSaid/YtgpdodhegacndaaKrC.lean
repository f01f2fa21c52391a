/- Layer 20: records encoded and verified. -/
import Derived.Test.YtgpdodhegacndaaKrB
namespace Go.Proofs.Ytgpdodhegacndaa
set_option linter.unusedSimpArgs false
set_option linter.unusedVariables false
open Go.RowKit

/-- what is read lies below B -/
def RdB (w : World) (B : Nat) (A : Option Addr) (xs : List Value) : Prop := Rd w A xs ∧ (xs ≠ [] → ∀ ad, A = some ad → ad.block < B)
theorem RdB.go {w w' : World} {B : Nat} {A : Option Addr} {xs : List Value} (h : RdB w B A xs) (hb : Below B w w') : Rd w' A xs := by
  by_cases hx : xs = []
  · subst hx; exact Rd.nil _ _
  · exact h.1.below hb (h.2 hx)
theorem RdB.of {w : World} {A : Option Addr} {xs : List Value} (h : Rd w A xs) : RdB w w.heap.size A xs := ⟨h, fun hx ad e => by
  cases xs with
  | nil => exact absurd rfl hx
  | cons v xs =>
    obtain ⟨ad', e', hc⟩ := h 0 v rfl
    rw [e] at e'; injection e' with e'; subst e'
    have := World.block_lt_of_cell? _ _ hc
    simpa [Addr.add] using this⟩
theorem RdB.next {w w' : World} {B : Nat} {A : Option Addr} {xs : List Value} (h : RdB w B A xs) (hb : Below B w w') : RdB w' B A xs := ⟨h.go hb, h.2⟩
theorem own_lo {w w' : World} {base B : Nat} {e : TypeId} {size : Nat} {v : Value} {n : Nat} {xs : List Value} (h : w.ownsRow base e size v n xs) (hb : Below B w w') (hB : ∀ g, v.ownBlock = some g → g < B) : w'.ownsRow base e size v n xs :=
  own_chg h (S := fun k => B ≤ k) ⟨hb.os, hb.tape, hb.output, hb.size, fun k _ hn => hb.block k (by omega)⟩ (fun g hg => by have := hB g hg; omega)

set_option maxRecDepth 100000 in
set_option maxHeartbeats 1000000 in
theorem appendRecord_any (w : World) (B : Nat) (hBw : B ≤ w.heap.size) (A : Option Addr) (l : List Int) (c : Nat) (s k : Int) (A2 : Option Addr) (b : List Int) (c2 : Nat) (HO : w.ownsRow B 5 1 (.slice A l.length c) l.length (l.map (.int .u8))) (h2 : RdB w B A2 (b.map (.int .u8))) (hl : l.length ≤ 10000000) (hbl : b.length ≤ 1000000) :
    Calls Try.prog 52 #[.slice A l.length c, .int .u64 s, .agg #[.int .u8 k, .slice A2 b.length c2]] w fun e_ w' => ∃ A' c', e_ = .returned (.tuple #[.slice A' (l ++ Jr.one s ⟨k, b⟩).length c', .int .u64 (Jr.next s ⟨k, b⟩)]) ∧ w'.ownsRow B 5 1 (.slice A' (l ++ Jr.one s ⟨k, b⟩).length c') (l ++ Jr.one s ⟨k, b⟩).length ((l ++ Jr.one s ⟨k, b⟩).map (.int .u8)) ∧ Below B w w' := by
  have hen : (Wr.enc (b.length : Nat)).length ≤ 10 := Wr.enc_len (by unfold Wr.I64; omega)
  have hI : Wr.I64 (b.length : Nat) := by unfold Wr.I64; omega
  have hS : Ck.U64 (Jr.next s ⟨k, b⟩) := Jr.recI_U64 _ _ _
  refine Fw.calls Try.func52 rfl Try.ntmps52 rfl ?_
  have HB := Below.refl (B) w
  refine Fw.seq fun _ hK1 => ?_
  refine Fw.region ?_
  refine Fw.box rfl rfl ?_
  intro w1 gXr egXr HXr hb
  have lgXr : B ≤ gXr := by have := (Nat.le_trans hBw HB.size); omega
  replace HO := own_below HO hb (Nat.le_refl _)
  replace HB := HB.trans (hb.mono (Nat.le_trans hBw HB.size))
  clear hb
  clear egXr
  refine Fw.s (Fw.val_assign rfl) rfl ?_
  refine Fw.s (Fw.val_assign rfl) rfl ?_
  refine Fw.nil ?_
  refine hK1 _ _ ?_
  refine Fw.seq fun _ hK2 => ?_
  refine Fw.region ?_
  refine Fw.alloc ze78 rfl ?_
  intro w2 gXw egXw HXw hb
  have hOX : ∀ g_, (Value.slice A l.length c).ownBlock = some g_ → g_ < gXw := fun g_ h_ => by have := (HO.lt g_ h_).2; omega
  have n_gXr_gXw : gXr < gXw := by have := HXr.lt; omega
  have lgXw : B ≤ gXw := by have := (Nat.le_trans hBw HB.size); omega
  replace HO := own_below HO hb (Nat.le_refl _)
  replace HXr := HXr.low hb
  replace HB := HB.trans (hb.mono (Nat.le_trans hBw HB.size))
  clear hb
  clear egXw
  refine Fw.nil ?_
  refine hK2 _ _ ?_
  refine Fw.seq fun _ hK3 => ?_
  have HW : WrAt w2 gXw gXw [] := ⟨Nat.le_refl _, none, 0, HXw, World.ownsRow_nil _ _ _ _⟩
  clear HXw
  refine Fw.region ?_
  refine Fw.s (Fw.val_fieldAddr fl64_1 rfl rfl) rfl ?_
  refine Fw.ld sc56 rfl (HXr.cell 1) rfl ?_
  refine Fw.s (Fw.val_len Try.underlying56 rfl) rfl ?_
  refine Fw.call cf29 rfl rfl (writerInt_any _ gXw gXw [] (b.length : Nat) HW hI (by decide)) ?_
  rintro e_ w3 ⟨rfl, HW2, hw_⟩
  refine ⟨_, rfl, ?_⟩
  replace HO := own_lo HO hw_ hOX
  replace HXr := HXr.below hw_ (by omega)
  replace HB := HB.trans (hw_.mono (by omega))
  clear hw_ HW
  have HW := HW2
  clear HW2
  refine Fw.nil ?_
  refine hK3 _ _ (Fw.FC.sub (f' := [(8, _), (5, _), (0, _), (1, _)]) (.cons rfl (.cons rfl (.cons rfl (.cons rfl .nil)))) ?_)
  refine Fw.seq fun _ hK4 => ?_
  refine Fw.region ?_
  refine Fw.s (Fw.val_move rfl) rfl ?_
  refine Fw.call cf31 rfl rfl (encoded_any _ gXw gXw (Wr.enc (b.length : Nat)) HW (by omega)) ?_
  rintro e_ w4 ⟨AE, cE, rfl, HE, hb⟩
  refine ⟨_, rfl, ?_⟩
  replace HO := own_below HO hb (Nat.le_refl _)
  replace HXr := HXr.low hb
  replace HW := HW.low hb
  replace HB := HB.trans (hb.mono (Nat.le_trans hBw HB.size))
  clear hb
  refine Fw.append (base := B) ((l ++ Wr.enc (b.length : Nat))).length (((l ++ Wr.enc (b.length : Nat))).map (.int .u8)) slU8 rfl rfl HO (Rd.of_own HE) (by simp) oneCell_ints (by unfold maxLen; (try simp only [List.length_append, List.length_cons, List.length_nil, List.length_take]); omega) (Nat.le_trans hBw HB.size) (by (try simp only [List.length_append, List.length_cons, List.length_nil]); (try omega)) (by rw [List.map_append (l₁ := l)]; (try rfl)) rfl ?_
  intro A17 c17 w5 N_ hbb hc _
  replace HXr := HXr.chg hc (fun e => own_ne_blk HO HXr (by decide) e.symm)
  replace HB := HB.trans hbb
  clear hbb hc HO
  have HO := N_
  clear N_
  refine Fw.s (Fw.val_assign rfl) rfl ?_
  refine Fw.nil ?_
  refine hK4 _ _ ?_
  refine Fw.seq fun _ hK5 => ?_
  refine Fw.region ?_
  refine Fw.s (Fw.val_move rfl) rfl ?_
  refine Fw.s (Fw.val_fieldAddr fl64_0 rfl rfl) rfl ?_
  refine Fw.ld sc5 rfl (HXr.cell 0) rfl ?_
  refine Fw.buildSlice [_] sl56 rfl rfl (by exact Fw.allSz rfl) (by decide) rfl ?_
  intro w6 gS21 egS21 HS21 hb
  have n_gXr_gS21 : gXr < gS21 := by have := HXr.lt; omega
  have lgS21 : B ≤ gS21 := by have := (Nat.le_trans hBw HB.size); omega
  replace HO := own_below HO hb (Nat.le_refl _)
  replace HXr := HXr.low hb
  replace HB := HB.trans (hb.mono (Nat.le_trans hBw HB.size))
  clear hb
  clear egS21
  refine Fw.append (base := B) (((l ++ Wr.enc (b.length : Nat)) ++ [k])).length ((((l ++ Wr.enc (b.length : Nat)) ++ [k])).map (.int .u8)) slU8 rfl rfl HO (Fw.rdBlk HS21) rfl (Fw.oneCellsL rfl) (by unfold maxLen; (try simp only [List.length_append, List.length_cons, List.length_nil, List.length_take]); omega) (Nat.le_trans hBw HB.size) (by (try simp only [List.length_append, List.length_cons, List.length_nil]); (try omega)) (by rw [List.map_append (l₁ := (l ++ Wr.enc (b.length : Nat)))]; (try rfl)) rfl ?_
  intro A22 c22 w7 N_ hbb hc _
  replace HXr := HXr.chg hc (fun e => own_ne_blk HO HXr (by decide) e.symm)
  replace HB := HB.trans hbb
  clear hbb hc HO
  have HO := N_
  clear N_
  refine Fw.s (Fw.val_assign rfl) rfl ?_
  refine Fw.nil ?_
  refine hK5 _ _ (Fw.FC.sub (f' := [(0, _), (5, _), (1, _)]) (.cons rfl (.cons rfl (.cons rfl .nil))) ?_)
  refine Fw.seq fun _ hK6 => ?_
  refine Fw.region ?_
  refine Fw.s (Fw.val_move rfl) rfl ?_
  refine Fw.s (Fw.val_fieldAddr fl64_1 rfl rfl) rfl ?_
  refine Fw.ld sc56 rfl (HXr.cell 1) rfl ?_
  refine Fw.append (base := B) ((((l ++ Wr.enc (b.length : Nat)) ++ [k]) ++ b)).length (((((l ++ Wr.enc (b.length : Nat)) ++ [k]) ++ b)).map (.int .u8)) slU8 rfl rfl HO (h2.go HB) (by simp) oneCell_ints (by unfold maxLen; (try simp only [List.length_append, List.length_cons, List.length_nil, List.length_take]); omega) (Nat.le_trans hBw HB.size) (by (try simp only [List.length_append, List.length_cons, List.length_nil]); (try omega)) (by rw [List.map_append (l₁ := ((l ++ Wr.enc (b.length : Nat)) ++ [k]))]; (try rfl)) rfl ?_
  intro A26 c26 w8 N_ hbb hc _
  replace HXr := HXr.chg hc (fun e => own_ne_blk HO HXr (by decide) e.symm)
  replace HB := HB.trans hbb
  clear hbb hc HO
  have HO := N_
  clear N_
  refine Fw.s (Fw.val_assign rfl) rfl ?_
  refine Fw.nil ?_
  refine hK6 _ _ ?_
  refine Fw.seq fun _ hK7 => ?_
  refine Fw.region ?_
  refine Fw.s (Fw.val_move rfl) rfl ?_
  refine Fw.s (Fw.val_fieldAddr fl64_0 rfl rfl) rfl ?_
  refine Fw.ld sc5 rfl (HXr.cell 0) rfl ?_
  refine Fw.s (Fw.val_fieldAddr fl64_1 rfl rfl) rfl ?_
  refine Fw.ld sc56 rfl (HXr.cell 1) rfl ?_
  refine Fw.call cf37 rfl rfl (chain_any s k A2 b c2 _ (h2.go HB) (by unfold maxLen; omega)) ?_
  rintro e_ _ ⟨rfl, rfl⟩
  refine ⟨_, rfl, ?_⟩
  refine Fw.s (Fw.val_assign rfl) rfl ?_
  refine Fw.nil ?_
  refine hK7 _ _ (Fw.FC.sub (f' := [(9, _), (0, _)]) (.cons rfl (.cons rfl .nil)) ?_)
  refine Fw.seq fun _ hK8 => ?_
  refine Fw.seq fun _ hK9 => ?_
  rw [show (((l ++ Wr.enc (b.length : Nat)) ++ [k]) ++ b).length = ((((l ++ Wr.enc (b.length : Nat)) ++ [k]) ++ b) ++ (Ck.bytesI (Jr.next s ⟨k, b⟩)).take 0).length by rw [List.take_zero, List.append_nil]]
  refine Fw.region ?_
  refine Fw.s (Fw.val_move rfl) rfl ?_
  refine Fw.nil ?_
  refine hK9 _ _ ?_
  refine Fw.block ?_
  replace HO : w8.ownsRow B 5 1 (.slice A26 ((((l ++ Wr.enc (b.length : Nat)) ++ [k]) ++ b) ++ (Ck.bytesI (Jr.next s ⟨k, b⟩)).take 0).length c26) ((((l ++ Wr.enc (b.length : Nat)) ++ [k]) ++ b) ++ (Ck.bytesI (Jr.next s ⟨k, b⟩)).take 0).length (((((l ++ Wr.enc (b.length : Nat)) ++ [k]) ++ b) ++ (Ck.bytesI (Jr.next s ⟨k, b⟩)).take 0).map (.int .u8)) := by rw [List.take_zero, List.append_nil]; exact HO
  refine Fw.loop (fun m_ f_ W_ => ∃ (j : Nat) (A_ : Option Addr) (c_ : Nat), m_ = 8 - j ∧ j ≤ 8 ∧ W_.ownsRow B 5 1 (.slice A_ ((((l ++ Wr.enc (b.length : Nat)) ++ [k]) ++ b) ++ (Ck.bytesI (Jr.next s ⟨k, b⟩)).take j).length c_) ((((l ++ Wr.enc (b.length : Nat)) ++ [k]) ++ b) ++ (Ck.bytesI (Jr.next s ⟨k, b⟩)).take j).length (((((l ++ Wr.enc (b.length : Nat)) ++ [k]) ++ b) ++ (Ck.bytesI (Jr.next s ⟨k, b⟩)).take j).map (.int .u8)) ∧ Below (B) w W_ ∧ f_ = [(33, .int .i64 j), (9, .int .u64 (Jr.next s ⟨k, b⟩)), (0, .slice A_ ((((l ++ Wr.enc (b.length : Nat)) ++ [k]) ++ b) ++ (Ck.bytesI (Jr.next s ⟨k, b⟩)).take j).length c_)]) ⟨_, _, ⟨0, A26, c26, rfl, Nat.zero_le _, HO, HB, rfl⟩, (.cons rfl (.cons rfl (.cons rfl .nil)))⟩ ?_
  clear HO HB
  rintro m10_ _ w9 ⟨j, A_, c_, hm10_, hjl, HO, HB, rfl⟩
  refine Fw.seq fun _ hK11 => ?_
  refine Fw.region ?_
  refine Fw.s2 (Fw.val_bin rfl rfl Fw.b_lss) rfl ?_ ?_
  · rintro hk
    refine Fw.nil ?_
    refine hK11 _ _ ?_
    refine Fw.seq fun _ hK13 => ?_
    refine Fw.condT rfl ?_
    refine Fw.skip ?_
    refine hK13 _ _ ?_
    refine Fw.seq fun _ hK14 => ?_
    refine Fw.block ?_
    refine Fw.seq fun _ hK15 => ?_
    have hj8 : j < 8 := by omega
    refine Fw.region ?_
    refine Fw.s (Fw.val_move rfl) rfl ?_
    refine Fw.s (Fw.val_assign rfl) rfl ?_
    refine Fw.nil ?_
    refine hK15 _ _ ?_
    refine Fw.region ?_
    refine Fw.s (Fw.val_move rfl) rfl ?_
    refine Fw.s (Fw.val_move rfl) rfl ?_
    refine Fw.s (Fw.val_move rfl) rfl ?_
    refine Fw.s (Fw.val_bin rfl rfl (Fw.b_mul (Fw.i64_ok (by omega)))) rfl ?_
    refine Fw.s (Fw.val_bin rfl rfl (Fw.b_shr (by omega) (Jr.shr8 hS j hj8))) rfl ?_
    refine Fw.s (Fw.val_conv Try.underlying51 Try.underlying5 rfl (Jr.wrap8 _ j)) rfl ?_
    refine Fw.buildSlice [_] sl56 rfl rfl (by exact Fw.allSz rfl) (by decide) rfl ?_
    intro w10 gS42 egS42 HS42 hb
    have lgS42 : B ≤ gS42 := by have := (Nat.le_trans hBw HB.size); omega
    replace HO := own_below HO hb (Nat.le_refl _)
    replace HB := HB.trans (hb.mono (Nat.le_trans hBw HB.size))
    clear hb
    clear egS42
    have htk : (Ck.bytesI (Jr.next s ⟨k, b⟩)).take (j + 1) = (Ck.bytesI (Jr.next s ⟨k, b⟩)).take j ++ [Ck.byteI (Jr.next s ⟨k, b⟩) j] := by rw [List.take_succ_eq_append_getElem (by rw [Ck.bytesI_length]; exact hj8)]; simp [Ck.bytesI]
    refine Fw.append (base := B) (((((l ++ Wr.enc (b.length : Nat)) ++ [k]) ++ b) ++ (Ck.bytesI (Jr.next s ⟨k, b⟩)).take (j + 1))).length ((((((l ++ Wr.enc (b.length : Nat)) ++ [k]) ++ b) ++ (Ck.bytesI (Jr.next s ⟨k, b⟩)).take (j + 1))).map (.int .u8)) slU8 rfl rfl HO (Fw.rdBlk HS42) rfl (Fw.oneCellsL rfl) (by unfold maxLen; (try simp only [List.length_append, List.length_cons, List.length_nil, List.length_take]); omega) (Nat.le_trans hBw HB.size) (by rw [htk]; simp only [List.length_append, List.length_cons, List.length_nil]; rfl) (by rw [htk, ← List.append_assoc, List.map_append (l₁ := ((((l ++ Wr.enc (b.length : Nat)) ++ [k]) ++ b) ++ (Ck.bytesI (Jr.next s ⟨k, b⟩)).take j))]; rfl) rfl ?_
    intro A43 c43 w11 N_ hbb hc _
    replace HB := HB.trans hbb
    clear hbb hc HO
    have HO := N_
    clear N_
    refine Fw.s (Fw.val_assign rfl) rfl ?_
    refine Fw.nil ?_
    refine Fw.X_blockN ?_
    refine hK14 _ _ (Fw.FC.sub (f' := [(0, _), (33, _), (9, _)]) (.cons rfl (.cons rfl (.cons rfl .nil))) ?_)
    refine Fw.region ?_
    refine Fw.s (Fw.val_bin rfl rfl (Fw.b_add (Fw.i64_ok (by omega)))) rfl ?_
    refine Fw.s (Fw.val_move rfl) rfl ?_
    refine Fw.nil ?_
    refine Fw.roundEnd _ _ (by omega) ⟨j + 1, A43, c43, rfl, hj8, HO, HB, rfl⟩ (.cons rfl (.cons rfl (.cons rfl .nil)))
  · rintro hk
    refine Fw.nil ?_
    refine hK11 _ _ ?_
    refine Fw.seq fun _ hK16 => ?_
    refine Fw.condF rfl ?_
    refine Fw.exit ?_
    refine Fw.X_exit ?_
    refine Fw.X_exit ?_
    refine Fw.X_block ?_
    refine hK8 _ _ ?_
    refine Fw.seq fun _ hK17 => ?_
    refine Fw.region ?_
    refine Fw.s (Fw.val_move rfl) rfl ?_
    refine Fw.s (Fw.val_move rfl) rfl ?_
    refine Fw.s (Fw.val_assign rfl) rfl ?_
    refine Fw.s (Fw.val_assign rfl) rfl ?_
    refine Fw.nil ?_
    refine hK17 _ _ ?_
    refine Fw.ret ?_
    refine Fw.ret_ [.tmp 6, .tmp 7] [_, _] Try.results52 (.tmp rfl (.tmp rfl .nil)) ?_
    obtain rfl : j = 8 := by omega
    rw [List.take_of_length_le (by rw [Ck.bytesI_length]; exact Nat.le_refl _), show (((l ++ Wr.enc (b.length : Nat)) ++ [k]) ++ b) ++ Ck.bytesI (Jr.next s ⟨k, b⟩) = l ++ Jr.one s ⟨k, b⟩ by unfold Jr.one; simp] at HO ⊢
    exact ⟨_, _, rfl, HO, HB⟩

end Go.Proofs.Ytgpdodhegacndaa
