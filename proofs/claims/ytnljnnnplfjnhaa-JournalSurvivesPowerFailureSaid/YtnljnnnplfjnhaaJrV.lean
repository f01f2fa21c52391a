/- Layer 20: a changed byte is found at its record. No program is named here. -/
import Derived.Test.YtnljnnnplfjnhaaJrR
namespace Go.Proofs.Ytnljnnnplfjnhaa
set_option linter.unusedSimpArgs false
set_option linter.unusedVariables false
open Go.RowKit
namespace Ck
theorem bytesI_inj {n m : Int} (hn : U64 n) (hm : U64 m) (h : bytesI n = bytesI m) : n = m := by
  have key : ∀ i, i < 8 → byteI n i = byteI m i := fun i hi => by
    have := congrArg (fun l => l[i]?) h
    simp [bytesI, hi] at this
    exact this
  have h0 := key 0 (by decide)
  have h1 := key 1 (by decide)
  have h2 := key 2 (by decide)
  have h3 := key 3 (by decide)
  have h4 := key 4 (by decide)
  have h5 := key 5 (by decide)
  have h6 := key 6 (by decide)
  have h7 := key 7 (by decide)
  simp only [byteI, Nat.reduceMul, Int.reducePow] at h0 h1 h2 h3 h4 h5 h6 h7
  unfold U64 at hn hm
  omega
theorem addIntI_inj {s s' n : Int} (hs : U64 s) (hs' : U64 s') (h : addIntI s n = addIntI s' n) : s = s' := moreI_inj _ (bytesI_bts n) hs hs' h
theorem recI_kind {p k k' : Int} {l : List Int} (hk : 0 ≤ k ∧ k < 256) (hk' : 0 ≤ k' ∧ k' < 256) (hl : Bts l) (h : recI p k l = recI p k' l) : k = k' := by
  have hi : U64 init := by unfold U64 init; omega
  have hp : U64 (addIntI init p) := moreI_bd _ _ hi
  unfold recI at h
  have h1 := moreI_inj l hl (moreI_bd _ _ (stepI_bd _ _)) (moreI_bd _ _ (stepI_bd _ _)) h
  exact stepI_inj_b hp hk hk' (addIntI_inj (stepI_bd _ _) (stepI_bd _ _) h1)
end Ck
namespace Jr
theorem first_bad2 {s : Int} {r : R} {t : List Int} {p : Nat} {x : Int} (hr : r.ok) (hl : r.b.length ≤ 8192) (hp : p < r.b.length + 9) (hx : 0 ≤ x ∧ x < 256) (hne : (r.k :: (r.b ++ Ck.bytesI (next s r)))[p]? ≠ some x) (ht : Ck.Bts t) :
    first s (Wr.enc (r.b.length : Nat) ++ ((r.k :: (r.b ++ Ck.bytesI (next s r))).set p x ++ t)) = none := by
  cases hf : first s (Wr.enc (r.b.length : Nat) ++ ((r.k :: (r.b ++ Ck.bytesI (next s r))).set p x ++ t)) with
  | none => rfl
  | some y =>
    exfalso
    obtain ⟨y, n'⟩ := y
    have hb : Ck.Bts (Wr.enc (r.b.length : Nat) ++ ((r.k :: (r.b ++ Ck.bytesI (next s r))).set p x ++ t)) := by
      intro z hz
      rcases List.mem_append.1 hz with hz | hz
      · exact Wr.enc_bts _ z hz
      · rcases List.mem_append.1 hz with hz | hz
        · rcases List.mem_or_eq_of_mem_set hz with hz | rfl
          · rcases List.mem_cons.1 hz with rfl | hz
            · exact hr.1
            · rcases List.mem_append.1 hz with hz | hz
              · exact hr.2 z hz
              · exact Ck.bytesI_bts _ z hz
          · exact hx
        · exact ht z hz
    obtain ⟨y1, y2, _, _, y5⟩ := first_some hb hf
    rw [one_cons] at y5
    obtain ⟨e1, e2⟩ := enc_split hl y2 y5
    rw [show y.k :: (y.b ++ (Ck.bytesI (next s y) ++ List.drop n' (Wr.enc (r.b.length : Nat) ++ ((r.k :: (r.b ++ Ck.bytesI (next s r))).set p x ++ t)))) = (y.k :: (y.b ++ Ck.bytesI (next s y))) ++ List.drop n' (Wr.enc (r.b.length : Nat) ++ ((r.k :: (r.b ++ Ck.bytesI (next s r))).set p x ++ t)) by simp] at e2
    have e3 := (List.append_inj e2 (by simp [Ck.bytesI_length]; omega)).1
    have hU : ∀ z : R, Ck.U64 (next s z) := fun z => recI_U64 _ _ _
    cases p with
    | zero =>
      rw [List.set_cons_zero] at e3
      injection e3 with e4 e5
      obtain ⟨e6, e7⟩ := List.append_inj e5 e1
      have := Ck.bytesI_inj (hU r) (hU y) e7
      unfold next at this
      rw [← e6] at this
      have := Ck.recI_kind hr.1 y1.1 hr.2 this
      apply hne
      simp [this, e4]
    | succ p =>
      rw [List.set_cons_succ] at e3
      injection e3 with e4 e5
      by_cases hlt : p < r.b.length
      · rw [List.set_append_left _ _ hlt] at e5
        obtain ⟨e6, e7⟩ := List.append_inj e5 (by rw [List.length_set]; exact e1)
        have h8 := Ck.bytesI_inj (hU r) (hU y) e7
        unfold next at h8
        rw [← e6, ← e4] at h8
        refine Ck.recI_set s r.k r.b p x hlt hr.2 hx (fun h => hne ?_) h8.symm
        rw [List.getElem?_cons_succ, List.getElem?_append_left hlt, List.getElem?_eq_getElem hlt, h]
      · rw [List.set_append_right _ _ (by omega)] at e5
        obtain ⟨e6, e7⟩ := List.append_inj e5 e1
        have hy : y = r := by cases y; cases r; simp at e4 e6; rw [e4, e6]
        rw [hy] at e7
        have hq : p - r.b.length < (Ck.bytesI (next s r)).length := by rw [Ck.bytesI_length]; omega
        have := congrArg (fun l => l[p - r.b.length]?) e7
        simp only [List.getElem?_set_self hq] at this
        apply hne
        rw [List.getElem?_cons_succ, List.getElem?_append_right (by omega)]
        exact this.symm
/-- the record of the changed byte is where the valid prefix ends -/
theorem detect {R_ : List R} {i K : Nat} {x : Int} (hok : ∀ r ∈ R_, r.ok ∧ r.b.length ≤ 8192) (hi : i < R_.length) (hx : 0 ≤ x ∧ x < 256)
    (h1 : (encs s0 (R_.take i)).length + (Wr.enc (R_[i].b.length : Nat)).length ≤ K) (h2 : K < (encs s0 (R_.take i)).length + (one (sealF s0 (R_.take i)) R_[i]).length) (hK : (encs s0 R_)[K]? ≠ some x) :
    Val s0 ((encs s0 R_).set K x) (R_.take i) (encs s0 (R_.take i)).length := by
  have hsp : R_ = R_.take i ++ (R_[i] :: R_.drop (i + 1)) := by rw [← List.drop_eq_getElem_cons hi, List.take_append_drop]
  have hr := hok _ (List.getElem_mem hi)
  obtain ⟨F, hF⟩ : ∃ F, F = encs s0 (R_.take i) := ⟨_, rfl⟩
  obtain ⟨T, hT⟩ : ∃ T, T = encs (next (sealF s0 (R_.take i)) R_[i]) (R_.drop (i + 1)) := ⟨_, rfl⟩
  have hTb : Ck.Bts T := by rw [hT]; exact encs_bts fun r hr => (hok r (List.mem_of_mem_drop hr)).1
  have hE : encs s0 R_ = F ++ (Wr.enc (R_[i].b.length : Nat) ++ ((R_[i].k :: (R_[i].b ++ Ck.bytesI (next (sealF s0 (R_.take i)) R_[i]))) ++ T)) := by
    conv => lhs; rw [hsp, encs_append]
    rw [← hF]
    congr 1
    simp only [encs]
    rw [← hT, one_cons]
    simp
  rw [← hF] at h1 h2 ⊢
  rw [one_len] at h2
  have hset : (encs s0 R_).set K x = F ++ (Wr.enc (R_[i].b.length : Nat) ++ ((R_[i].k :: (R_[i].b ++ Ck.bytesI (next (sealF s0 (R_.take i)) R_[i]))).set (K - F.length - (Wr.enc (R_[i].b.length : Nat)).length) x ++ T)) := by
    rw [hE, List.set_append_right _ _ (by omega), List.set_append_right _ _ (by omega), List.set_append_left _ _ (by simp [Ck.bytesI_length]; omega)]
  refine ⟨by rw [List.length_set, hE, List.length_append]; omega, by rw [hset, List.take_left, hF], fun r hr => hok r (List.mem_of_mem_take hr), ?_⟩
  rw [hset, List.drop_left]
  refine first_bad2 hr.1 hr.2 (by omega) hx (fun h => hK ?_) hTb
  rw [hE, List.getElem?_append_right (by omega), List.getElem?_append_right (by omega), List.getElem?_append_left (by simp [Ck.bytesI_length]; omega)]
  exact h
end Jr
end Go.Proofs.Ytnljnnnplfjnhaa
