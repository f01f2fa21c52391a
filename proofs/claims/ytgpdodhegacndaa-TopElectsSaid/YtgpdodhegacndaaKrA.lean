/- Layer 20: the journal's functions on bytes. -/
import Derived.Test.YtgpdodhegacndaaKr
import Derived.Test.YtgpdodhegacndaaT09
import Derived.Test.YtgpdodhegacndaaGi
import Derived.Test.YtgpdodhegacndaaRfA
import Derived.Test.YtgpdodhegacndaaCkWalks
import Derived.Test.YtgpdodhegacndaaCkT
namespace Go.Proofs.Ytgpdodhegacndaa
set_option linter.unusedSimpArgs false
set_option linter.unusedVariables false
open Go.RowKit

namespace Jr
def rlN (b : List Int) : Int := match rl b with | some (n, _) => (n : Nat) | none => 0
def rlM (b : List Int) : Int := match rl b with | some (_, m) => (m : Nat) | none => 0
theorem dec_split (c : Int) (q : List Int) (hc : c < 128) : ∀ (l : List Int) (i acc : Nat), (∀ x ∈ l, ¬ x < 128) → (∃ u, Wr.dec i acc (l ++ c :: q) = .ok (u, q) ∧ Wr.dec i acc (l ++ [c]) = .ok (u, [])) ∨ (∃ x y, Wr.dec i acc (l ++ c :: q) = .error x ∧ Wr.dec i acc (l ++ [c]) = .error y)
  | [], i, acc, _ => by
    by_cases h1 : (9 ≤ i ∧ c ≠ 1) ∨ (0 < i ∧ c = 0)
    · exact .inr ⟨2, 2, Wr.dec_bad h1, Wr.dec_bad h1⟩
    · exact .inl ⟨_, Wr.dec_end h1 hc, Wr.dec_end h1 hc⟩
  | x :: l, i, acc, h => by
    by_cases h1 : (9 ≤ i ∧ x ≠ 1) ∨ (0 < i ∧ x = 0)
    · exact .inr ⟨2, 2, Wr.dec_bad h1, Wr.dec_bad h1⟩
    · have hx := h x (by simp)
      have := dec_split c q hc l (i + 1) (acc + (x % 128).toNat * 128 ^ i) (fun y hy => h y (by simp [hy]))
      rw [List.cons_append, List.cons_append, Wr.dec_on h1 hx, Wr.dec_on h1 hx]
      exact this
theorem dec_none : ∀ (l : List Int) (i acc : Nat), (∀ x ∈ l, ¬ x < 128) → ∃ e, Wr.dec i acc l = .error e
  | [], i, acc, _ => ⟨11, rfl⟩
  | x :: l, i, acc, h => by
    by_cases h1 : (9 ≤ i ∧ x ≠ 1) ∨ (0 < i ∧ x = 0)
    · exact ⟨2, Wr.dec_bad h1⟩
    · rw [Wr.dec_on h1 (h x (by simp))]; exact dec_none l _ _ (fun y hy => h y (by simp [hy]))
theorem rl_none {b : List Int} (h : ∀ x ∈ b, ¬ x < 128) : rl b = none := by
  unfold rl
  obtain ⟨e, he⟩ := dec_none b 0 0 h
  rw [he]
theorem vint_last (u : Nat) : ∃ l x, Wr.vint u = l ++ [x] ∧ x < 128 := by
  induction u using Nat.strongRecOn with
  | ind u ih =>
    by_cases h : u < 128
    · exact ⟨[], _, Wr.vint_lt h, by omega⟩
    · obtain ⟨l, x, e, hx⟩ := ih (u / 128) (by omega)
      exact ⟨_ :: l, x, by rw [Wr.vint_ge (by omega), e]; rfl, hx⟩
theorem rl_long {b : List Int} (hb : Ck.Bts b) (h4 : 4 ≤ b.length) (h : ∀ j (hj : j < b.length), j < 4 → ¬ b[j] < 128) : rl b = none := by
  unfold rl
  split
  · rename_i u r hd
    have e := dec_canon0 hb hd
    have hu : 268435456 ≤ u := by
      refine Classical.byContradiction fun hlt => ?_
      have h1 := Wr.vint_len 3 u (by have : (128 : Nat) ^ 4 = 268435456 := by decide
                                     omega)
      obtain ⟨l, x, e2, hx⟩ := vint_last u
      rw [e2] at e h1
      simp at h1
      have hl : l.length < b.length := by omega
      have := h l.length hl (by omega)
      rw [List.getElem_of_eq e] at this
      simp at this
      omega
    rw [if_neg]
    unfold Wr.unzz
    split <;> omega
  · rfl
/-- the bytes up to the first small one decide -/
theorem rl_take {b : List Int} {k : Nat} (hb : Ck.Bts b) (hk : k < b.length) (hge : ∀ j (hj : j < b.length), j < k → ¬ b[j] < 128) (hlt : b[k] < 128) :
    rl b = if Wr.fin (Wr.rd ⟨b.take (k + 1), 0⟩) = 0 ∧ 0 ≤ Wr.rdV ⟨b.take (k + 1), 0⟩ ∧ Wr.rdV ⟨b.take (k + 1), 0⟩ ≤ 8192 then some ((Wr.rdV ⟨b.take (k + 1), 0⟩).toNat, k + 1) else none := by
  have e1 : b = b.take k ++ b[k] :: b.drop (k + 1) := by rw [← List.drop_eq_getElem_cons hk, List.take_append_drop]
  have e2 : b.take (k + 1) = b.take k ++ [b[k]] := List.take_succ_eq_append_getElem hk
  have hsm : ∀ x ∈ b.take k, ¬ x < 128 := fun x hx => by
    obtain ⟨j, hj, rfl⟩ := List.getElem_of_mem hx
    rw [List.length_take] at hj
    rw [List.getElem_take]
    exact hge j (by omega) (by omega)
  have hlen : b.length - (b.drop (k + 1)).length = k + 1 := by rw [List.length_drop]; omega
  rcases dec_split b[k] (b.drop (k + 1)) hlt (b.take k) 0 0 hsm with ⟨u, h1, h2⟩ | ⟨x, y, h1, h2⟩
  · rw [← e1] at h1
    rw [← e2] at h2
    obtain ⟨r1, r2, _⟩ := Wr.rd_e0 (r := ⟨b.take (k + 1), 0⟩) rfl h2
    rw [r1, r2]
    unfold rl
    rw [h1]
    simp only [hlen]
    by_cases hu : 0 ≤ Wr.unzz u ∧ Wr.unzz u ≤ 8192
    · rw [if_pos hu, if_pos ⟨rfl, hu⟩]
    · rw [if_neg hu, if_neg (fun h => hu h.2)]
  · rw [← e1] at h1
    rw [← e2] at h2
    obtain ⟨r1, r2, _⟩ := Wr.rd_e1 (r := ⟨b.take (k + 1), 0⟩) rfl h2
    have hy : y ≠ 0 := by
      rintro rfl
      have : ∀ (l : List Int) (i acc : Nat), Wr.dec i acc l ≠ .error 0 := by
        intro l
        induction l with
        | nil => intro i acc h; rw [Wr.dec_nil] at h; injection h with h; cases h
        | cons c l ih =>
          intro i acc h
          rw [Wr.dec] at h
          split at h
          · injection h with h; cases h
          · split at h
            · cases h
            · exact ih _ _ h
      exact this _ _ _ h2
    rw [r1, r2]
    unfold rl
    rw [h1, if_neg]
    rintro ⟨h, _⟩
    unfold Wr.fin at h
    rw [if_pos hy] at h
    exact hy h
theorem ge_step {b : List Int} {k : Nat} (h : ∀ j (hj : j < b.length), j < k → ¬ b[j] < 128) (hk : k < b.length) (h8 : 128 ≤ b[k]) : ∀ j (hj : j < b.length), j < k + 1 → ¬ b[j] < 128 := fun j hj h4 => by
  by_cases h2 : j = k
  · subst h2; omega
  · exact h j hj (by omega)
end Jr
set_option maxRecDepth 100000 in
set_option maxHeartbeats 1000000 in
theorem readLength_any (w : World) (A : Option Addr) (b : List Int) (c : Nat) (h : Rd w A (b.map (.int .u8))) (hb : Ck.Bts b) (hl : b.length ≤ 1000000) (hc : b.length ≤ c) : Calls Try.prog 36 #[.slice A b.length c] w fun e_ w' => e_ = .returned (.tuple #[.int .i64 (Jr.rlN b), .int .i64 (Jr.rlM b), .bool (Jr.rl b).isSome]) ∧ Below w.heap.size w w' := by
  refine Fw.calls Try.func36 rfl Try.ntmps36 rfl ?_
  have HB := Below.refl (w.heap.size) w
  refine Fw.seq fun _ hK1 => ?_
  refine Fw.region ?_
  refine Fw.s (Fw.val_assign rfl) rfl ?_
  refine Fw.s (Fw.val_assign rfl) rfl ?_
  refine Fw.s (Fw.val_assign rfl) rfl ?_
  refine Fw.nil ?_
  refine hK1 _ _ ?_
  refine Fw.seq fun _ hK2 => ?_
  refine Fw.region ?_
  refine Fw.s (Fw.val_assign rfl) rfl ?_
  refine Fw.nil ?_
  refine hK2 _ _ ?_
  refine Fw.seq fun _ hK3 => ?_
  refine Fw.block ?_
  refine Fw.loop (fun m_ f_ W_ => ∃ (k : Nat), m_ = b.length - k ∧ k ≤ b.length ∧ k ≤ 3 ∧ (∀ j (hj : j < b.length), j < k → ¬ b[j] < 128) ∧ Below (w.heap.size) w W_ ∧ f_ = [(5, .int .i64 k), (0, .slice A b.length c)]) ⟨_, _, ⟨0, rfl, Nat.zero_le _, by omega, fun j hj h_ => absurd h_ (Nat.not_lt_zero _), HB, rfl⟩, (.cons rfl (.cons rfl .nil))⟩ ?_
  clear HB
  rintro m4_ _ w1 ⟨k, hm4_, hkl, hk3, hge, HB, rfl⟩
  refine Fw.seq fun _ hK5 => ?_
  refine Fw.seq fun _ hK6 => ?_
  refine Fw.region ?_
  refine Fw.s (Fw.val_move rfl) rfl ?_
  refine Fw.s (Fw.val_move rfl) rfl ?_
  refine Fw.s (Fw.val_len Try.underlying56 rfl) rfl ?_
  refine Fw.s2 (Fw.val_bin rfl rfl Fw.b_lss) rfl ?_ ?_
  · rintro hk
    refine Fw.s (Fw.val_move rfl) rfl ?_
    refine Fw.gT (d := 12) rfl rfl ?_
    refine Fw.s (Fw.val_move rfl) rfl ?_
    refine Fw.gT (d := 12) rfl rfl ?_
    refine Fw.s (Fw.val_move rfl) rfl ?_
    have hkn : k < b.length := by omega
    obtain ⟨ad, b_, o_, hA, hadd, HE⟩ := Fw.rdAtM (h.low HB) k hkn
    refine Fw.gT (d := 12) rfl rfl ?_
    refine Fw.s (Fw.val_indexR Try.underlying56 sz5 rfl hA rfl rfl hkn hadd) rfl ?_
    refine Fw.gT (d := 12) rfl rfl ?_
    refine Fw.ld sc5 rfl (HE) rfl ?_
    refine Fw.gT (d := 12) rfl rfl ?_
    refine Fw.s2 (Fw.val_bin rfl rfl Fw.b_geq) rfl ?_ ?_
    · rintro h8
      refine Fw.s (Fw.val_pickT rfl rfl) rfl ?_
      refine Fw.nil ?_
      refine hK6 _ _ ?_
      refine Fw.condT rfl ?_
      refine Fw.skip ?_
      refine hK5 _ _ ?_
      refine Fw.block ?_
      refine Fw.seq fun _ hK10 => ?_
      refine Fw.region ?_
      refine Fw.s (Fw.val_move rfl) rfl ?_
      refine Fw.s (Fw.val_bin rfl rfl (Fw.b_add (Fw.i64_ok (by omega)))) rfl ?_
      refine Fw.s (Fw.val_assign rfl) rfl ?_
      refine Fw.nil ?_
      refine hK10 _ _ (Fw.FC.sub (f' := [(5, _), (17, _), (16, _), (15, _), (14, _), (13, _), (0, _)]) (.cons rfl (.cons rfl (.cons rfl (.cons rfl (.cons rfl (.cons rfl (.cons rfl .nil))))))) ?_)
      refine Fw.seq fun _ hK11 => ?_
      refine Fw.region ?_
      refine Fw.s (Fw.val_move rfl) rfl ?_
      refine Fw.s2 (Fw.val_bin rfl rfl Fw.b_gtr) rfl ?_ ?_
      · rintro h3
        refine Fw.nil ?_
        refine hK11 _ _ ?_
        refine Fw.condT rfl ?_
        refine Fw.seq fun _ hK13 => ?_
        refine Fw.region ?_
        refine Fw.s (Fw.val_assign rfl) rfl ?_
        refine Fw.s (Fw.val_assign rfl) rfl ?_
        refine Fw.s (Fw.val_assign rfl) rfl ?_
        refine Fw.nil ?_
        refine hK13 _ _ (Fw.FC.sub (f' := [(4, _), (3, _), (2, _)]) (.cons rfl (.cons rfl (.cons rfl .nil))) ?_)
        refine Fw.ret ?_
        refine Fw.X_blockR ?_
        refine Fw.X_ret ?_
        refine Fw.X_blockR ?_
        refine Fw.X_ret ?_
        refine Fw.ret_ [.tmp 2, .tmp 3, .tmp 4] [_, _, _] Try.results36 (.tmp rfl (.tmp rfl (.tmp rfl .nil))) ?_
        have hr : Jr.rl b = none := Jr.rl_long hb (by omega) fun j hj h4 => by
          by_cases h2_ : j = k
          · subst h2_; omega
          · exact hge j hj (by omega)
        unfold Jr.rlN Jr.rlM; rw [hr]
        exact ⟨rfl, HB⟩
      · rintro h3
        refine Fw.nil ?_
        refine hK11 _ _ ?_
        refine Fw.condF rfl ?_
        refine Fw.skip ?_
        refine Fw.X_blockN ?_
        refine Fw.roundEnd _ _ (by omega) ⟨k + 1, rfl, by omega, by omega, Jr.ge_step hge hkn (by omega), HB, rfl⟩ (.cons rfl (.cons rfl .nil))
    · rintro h8
      refine Fw.s (Fw.val_pickT rfl rfl) rfl ?_
      refine Fw.nil ?_
      refine hK6 _ _ ?_
      refine Fw.condF rfl ?_
      refine Fw.exit ?_
      refine Fw.X_exit ?_
      refine Fw.X_exit ?_
      refine Fw.X_block ?_
      refine hK3 _ _ (Fw.FC.sub (f' := [(5, _), (0, _)]) (.cons rfl (.cons rfl .nil)) ?_)
      refine Fw.seq fun _ hK14 => ?_
      refine Fw.seq fun _ hK15 => ?_
      refine Fw.region ?_
      refine Fw.s (Fw.val_move rfl) rfl ?_
      refine Fw.s (Fw.val_move rfl) rfl ?_
      refine Fw.s (Fw.val_len Try.underlying56 rfl) rfl ?_
      refine Fw.s (Fw.Val.F (Fw.val_bin rfl rfl Fw.b_eql) (by omega)) rfl ?_
      refine Fw.nil ?_
      refine hK15 _ _ ?_
      refine Fw.condF rfl ?_
      refine Fw.skip ?_
      refine hK14 _ _ ?_
      refine Fw.seq fun _ hK16 => ?_
      have htl : (b.take (k + 1)).length = k + 1 := by rw [List.length_take]; omega
      have hr := Jr.rl_take hb hkn hge (by omega)
      refine Fw.region ?_
      refine Fw.s (Fw.val_move rfl) rfl ?_
      refine Fw.s (Fw.val_move rfl) rfl ?_
      refine Fw.s (Fw.val_bin rfl rfl (Fw.b_add (Fw.i64_ok (by omega)))) rfl ?_
      refine Fw.s (Fw.val_sliceTo (m := k + 1) Try.underlying56 sz5 rfl rfl (by omega) (by omega)) rfl ?_
      refine Fw.call cf38 rfl rfl (by have := newReader_any w1 A (b.take (k + 1)) c ((h.low HB).take (k + 1)) (by rw [htl]; omega); rw [htl] at this; exact this) ?_
      rintro e_ w2 ⟨pr, rfl, hpr, HRd, hb⟩
      refine ⟨_, rfl, ?_⟩
      have lpr : w.heap.size ≤ pr := by have := HB.size; omega
      clear HE
      replace HB := HB.trans (hb.mono HB.size)
      clear hb
      refine Fw.s (Fw.val_assign rfl) rfl ?_
      refine Fw.nil ?_
      refine hK16 _ _ (Fw.FC.sub (f' := [(6, _), (5, _)]) (.cons rfl (.cons rfl .nil)) ?_)
      refine Fw.seq fun _ hK17 => ?_
      refine Fw.region ?_
      refine Fw.s (Fw.val_move rfl) rfl ?_
      refine Fw.call cf39 rfl rfl (readInt_any _ pr ⟨b.take (k + 1), 0⟩ HRd (fun x hx => hb x (List.mem_of_mem_take hx))) ?_
      rintro e_ w3 ⟨rfl, HRd2, hc_⟩
      refine ⟨_, rfl, ?_⟩
      replace HB := HB.trans (hc_.below (B := w.heap.size) (fun k e => by omega) HB.size)
      clear HRd hc_
      have HRd := HRd2
      clear HRd2
      refine Fw.s (Fw.val_assign rfl) rfl ?_
      refine Fw.nil ?_
      refine hK17 _ _ ?_
      refine Fw.seq fun _ hK18 => ?_
      refine Fw.seq fun _ hK19 => ?_
      refine Fw.region ?_
      refine Fw.s (Fw.val_move rfl) rfl ?_
      refine Fw.call cf40 rfl rfl (finish_any _ pr (Wr.rd ⟨b.take (k + 1), 0⟩) HRd) ?_
      rintro e_ _ ⟨rfl, rfl⟩
      refine ⟨_, rfl, ?_⟩
      refine Fw.s2 (Fw.val_bin rfl rfl Fw.b_neq) rfl ?_ ?_
      · rintro hf
        refine Fw.s (Fw.val_move rfl) rfl ?_
        refine Fw.gF (d := 37) rfl rfl rfl rfl ?_
        refine Fw.gF (d := 37) rfl rfl rfl rfl ?_
        refine Fw.s (Fw.val_pickT rfl rfl) rfl ?_
        refine Fw.s (Fw.val_move rfl) rfl ?_
        refine Fw.gF (d := 41) rfl rfl rfl rfl ?_
        refine Fw.gF (d := 41) rfl rfl rfl rfl ?_
        refine Fw.s (Fw.val_pickT rfl rfl) rfl ?_
        refine Fw.nil ?_
        refine hK19 _ _ (Fw.FC.sub (f' := [(44, _), (7, _), (5, _)]) (.cons rfl (.cons rfl (.cons rfl .nil))) ?_)
        refine Fw.condT rfl ?_
        refine Fw.seq fun _ hK21 => ?_
        refine Fw.region ?_
        refine Fw.s (Fw.val_assign rfl) rfl ?_
        refine Fw.s (Fw.val_assign rfl) rfl ?_
        refine Fw.s (Fw.val_assign rfl) rfl ?_
        refine Fw.nil ?_
        refine hK21 _ _ ?_
        refine Fw.ret ?_
        refine Fw.X_ret ?_
        refine Fw.ret_ [.tmp 2, .tmp 3, .tmp 4] [_, _, _] Try.results36 (.tmp rfl (.tmp rfl (.tmp rfl .nil))) ?_
        rw [if_neg (by omega)] at hr
        unfold Jr.rlN Jr.rlM; rw [hr]
        exact ⟨rfl, HB⟩
      · rintro hf
        refine Fw.s (Fw.val_move rfl) rfl ?_
        refine Fw.gT (d := 37) rfl rfl ?_
        refine Fw.s (Fw.val_move rfl) rfl ?_
        refine Fw.gT (d := 37) rfl rfl ?_
        refine Fw.s2 (Fw.val_bin rfl rfl Fw.b_lss) rfl ?_ ?_
        · rintro hn1
          refine Fw.s (Fw.val_pickF rfl rfl) rfl ?_
          refine Fw.s (Fw.val_move rfl) rfl ?_
          refine Fw.gF (d := 41) rfl rfl rfl rfl ?_
          refine Fw.gF (d := 41) rfl rfl rfl rfl ?_
          refine Fw.s (Fw.val_pickT rfl rfl) rfl ?_
          refine Fw.nil ?_
          refine hK19 _ _ (Fw.FC.sub (f' := [(44, _), (7, _), (5, _)]) (.cons rfl (.cons rfl (.cons rfl .nil))) ?_)
          refine Fw.condT rfl ?_
          refine Fw.seq fun _ hK23 => ?_
          refine Fw.region ?_
          refine Fw.s (Fw.val_assign rfl) rfl ?_
          refine Fw.s (Fw.val_assign rfl) rfl ?_
          refine Fw.s (Fw.val_assign rfl) rfl ?_
          refine Fw.nil ?_
          refine hK23 _ _ ?_
          refine Fw.ret ?_
          refine Fw.X_ret ?_
          refine Fw.ret_ [.tmp 2, .tmp 3, .tmp 4] [_, _, _] Try.results36 (.tmp rfl (.tmp rfl (.tmp rfl .nil))) ?_
          rw [if_neg (by omega)] at hr
          unfold Jr.rlN Jr.rlM; rw [hr]
          exact ⟨rfl, HB⟩
        · rintro hn1
          refine Fw.s (Fw.val_pickF rfl rfl) rfl ?_
          refine Fw.s (Fw.val_move rfl) rfl ?_
          refine Fw.gT (d := 41) rfl rfl ?_
          refine Fw.s (Fw.val_move rfl) rfl ?_
          refine Fw.gT (d := 41) rfl rfl ?_
          refine Fw.s2 (Fw.val_bin rfl rfl Fw.b_gtr) rfl ?_ ?_
          · rintro hn2
            refine Fw.s (Fw.val_pickF rfl rfl) rfl ?_
            refine Fw.nil ?_
            refine hK19 _ _ (Fw.FC.sub (f' := [(44, _), (7, _), (5, _)]) (.cons rfl (.cons rfl (.cons rfl .nil))) ?_)
            refine Fw.condT rfl ?_
            refine Fw.seq fun _ hK25 => ?_
            refine Fw.region ?_
            refine Fw.s (Fw.val_assign rfl) rfl ?_
            refine Fw.s (Fw.val_assign rfl) rfl ?_
            refine Fw.s (Fw.val_assign rfl) rfl ?_
            refine Fw.nil ?_
            refine hK25 _ _ ?_
            refine Fw.ret ?_
            refine Fw.X_ret ?_
            refine Fw.ret_ [.tmp 2, .tmp 3, .tmp 4] [_, _, _] Try.results36 (.tmp rfl (.tmp rfl (.tmp rfl .nil))) ?_
            rw [if_neg (by omega)] at hr
            unfold Jr.rlN Jr.rlM; rw [hr]
            exact ⟨rfl, HB⟩
          · rintro hn2
            refine Fw.s (Fw.val_pickF rfl rfl) rfl ?_
            refine Fw.nil ?_
            refine hK19 _ _ (Fw.FC.sub (f' := [(44, _), (7, _), (5, _)]) (.cons rfl (.cons rfl (.cons rfl .nil))) ?_)
            refine Fw.condF rfl ?_
            refine Fw.skip ?_
            refine hK18 _ _ ?_
            refine Fw.seq fun _ hK26 => ?_
            refine Fw.region ?_
            refine Fw.s (Fw.val_move rfl) rfl ?_
            refine Fw.s (Fw.val_move rfl) rfl ?_
            refine Fw.s (Fw.val_bin rfl rfl (Fw.b_add (Fw.i64_ok (by omega)))) rfl ?_
            refine Fw.s (Fw.val_assign rfl) rfl ?_
            refine Fw.s (Fw.val_assign rfl) rfl ?_
            refine Fw.s (Fw.val_assign rfl) rfl ?_
            refine Fw.nil ?_
            refine hK26 _ _ ?_
            refine Fw.ret ?_
            refine Fw.ret_ [.tmp 2, .tmp 3, .tmp 4] [_, _, _] Try.results36 (.tmp rfl (.tmp rfl (.tmp rfl .nil))) ?_
            rw [if_pos ⟨by omega, by omega, by omega⟩] at hr
            unfold Jr.rlN Jr.rlM; rw [hr]
            simp only [Option.isSome_some]
            rw [Int.toNat_of_nonneg (by omega)]
            exact ⟨rfl, HB⟩
  · rintro hk
    refine Fw.s (Fw.val_move rfl) rfl ?_
    refine Fw.gF (d := 12) rfl rfl rfl rfl ?_
    refine Fw.gF (d := 12) rfl rfl rfl rfl ?_
    refine Fw.gF (d := 12) rfl rfl rfl rfl ?_
    refine Fw.gF (d := 12) rfl rfl rfl rfl ?_
    refine Fw.gF (d := 12) rfl rfl rfl rfl ?_
    refine Fw.s (Fw.val_pickF rfl rfl) rfl ?_
    refine Fw.nil ?_
    refine hK6 _ _ ?_
    refine Fw.condF rfl ?_
    refine Fw.exit ?_
    refine Fw.X_exit ?_
    refine Fw.X_exit ?_
    refine Fw.X_block ?_
    refine hK3 _ _ (Fw.FC.sub (f' := [(5, _), (0, _)]) (.cons rfl (.cons rfl .nil)) ?_)
    refine Fw.seq fun _ hK27 => ?_
    refine Fw.seq fun _ hK28 => ?_
    refine Fw.region ?_
    refine Fw.s (Fw.val_move rfl) rfl ?_
    refine Fw.s (Fw.val_move rfl) rfl ?_
    refine Fw.s (Fw.val_len Try.underlying56 rfl) rfl ?_
    refine Fw.s (Fw.Val.T (Fw.val_bin rfl rfl Fw.b_eql) (by omega)) rfl ?_
    refine Fw.nil ?_
    refine hK28 _ _ ?_
    refine Fw.condT rfl ?_
    refine Fw.seq fun _ hK29 => ?_
    refine Fw.region ?_
    refine Fw.s (Fw.val_assign rfl) rfl ?_
    refine Fw.s (Fw.val_assign rfl) rfl ?_
    refine Fw.s (Fw.val_assign rfl) rfl ?_
    refine Fw.nil ?_
    refine hK29 _ _ ?_
    refine Fw.ret ?_
    refine Fw.X_ret ?_
    refine Fw.ret_ [.tmp 2, .tmp 3, .tmp 4] [_, _, _] Try.results36 (.tmp rfl (.tmp rfl (.tmp rfl .nil))) ?_
    obtain rfl : k = b.length := by omega
    have hr : Jr.rl b = none := Jr.rl_none fun x hx => by
      obtain ⟨j, hj, rfl⟩ := List.getElem_of_mem hx
      exact hge j hj hj
    unfold Jr.rlN Jr.rlM; rw [hr]
    exact ⟨rfl, HB⟩

end Go.Proofs.Ytgpdodhegacndaa
