/- TopElects: quorums. -/
import Derived.Test.YtgpdodhegacndaaT09
import Derived.Test.YtgpdodhegacndaaOw
namespace Go.Proofs.Ytgpdodhegacndaa
set_option linter.unusedSimpArgs false
set_option linter.unusedVariables false
open Go.RowKit

namespace El
def at_ (l : List Int) (i : Nat) : Int := (l[i]?).getD 0
theorem at_get {l : List Int} {i : Nat} (h : i < l.length) : l[i] = at_ l i := by unfold at_; simp [h]
/-- a member list -/
def ML (l : List Int) : Prop := 1 ≤ l.length ∧ l.length ≤ 9 ∧ ∀ i, i < l.length → (0 ≤ at_ l i ∧ at_ l i ≤ 63) ∧ (0 < i → at_ l (i - 1) < at_ l i)
def cnt (yes : List Int) : List Int → Nat
  | [] => 0
  | m :: l => (if m ∈ yes then 1 else 0) + cnt yes l
theorem cnt_app (yes : List Int) : ∀ (a b : List Int), cnt yes (a ++ b) = cnt yes a + cnt yes b
  | [], b => by simp [cnt]
  | m :: a, b => by simp [cnt, cnt_app yes a b]; omega
theorem cnt_step {yes l : List Int} {k : Nat} (h : k < l.length) : cnt yes (l.take (k + 1)) = cnt yes (l.take k) + (if l[k] ∈ yes then 1 else 0) := by
  rw [List.take_succ_eq_append_getElem h, cnt_app]; simp [cnt]
theorem cnt_le (yes : List Int) : ∀ l : List Int, cnt yes l ≤ l.length
  | [] => Nat.le_refl _
  | m :: l => by have := cnt_le yes l; simp only [cnt, List.length_cons]; split <;> omega
/-- yes holds a majority of l -/
def Mj (l yes : List Int) : Prop := l.length / 2 + 1 ≤ cnt yes l
def Vl (old new : List Int) : Prop := ML old ∧ (new.length = 0 ∨ ML new)
def Rea (old new yes : List Int) : Prop := Vl old new ∧ Mj old yes ∧ (new.length = 0 ∨ Mj new yes)
theorem one_ints (l : List Int) : ∀ u ∈ l.map (Value.int .i64), u.oneCell' = true := fun u hu => by
  obtain ⟨x, _, rfl⟩ := List.mem_map.1 hu; rfl
end El
set_option maxRecDepth 100000 in
set_option maxHeartbeats 1000000 in
theorem memberList_any (w : World) (A : Option Addr) (l : List Int) (c : Nat) (h : Rd w A (l.map (.int .i64))) : Calls Try.prog 17 #[.slice A l.length c] w fun e_ w' => ∃ b, e_ = .returned (.bool b) ∧ (b = true ↔ El.ML l) ∧ w = w' := by
  refine Fw.calls Try.func17 rfl Try.ntmps17 rfl ?_
  refine Fw.seq fun _ hK1 => ?_
  refine Fw.region ?_
  refine Fw.s (Fw.val_assign rfl) rfl ?_
  refine Fw.nil ?_
  refine hK1 _ _ ?_
  refine Fw.seq fun _ hK2 => ?_
  refine Fw.seq fun _ hK3 => ?_
  refine Fw.region ?_
  refine Fw.s (Fw.val_move rfl) rfl ?_
  refine Fw.s (Fw.val_len Try.underlying23 rfl) rfl ?_
  refine Fw.s2 (Fw.val_bin rfl rfl Fw.b_lss) rfl ?_ ?_
  · rintro h1
    refine Fw.s (Fw.val_move rfl) rfl ?_
    refine Fw.gF (d := 8) rfl rfl rfl rfl ?_
    refine Fw.gF (d := 8) rfl rfl rfl rfl ?_
    refine Fw.gF (d := 8) rfl rfl rfl rfl ?_
    refine Fw.s (Fw.val_pickT rfl rfl) rfl ?_
    refine Fw.nil ?_
    refine hK3 _ _ (Fw.FC.sub (f' := [(12, _), (0, _)]) (.cons rfl (.cons rfl .nil)) ?_)
    refine Fw.condT rfl ?_
    refine Fw.seq fun _ hK5 => ?_
    refine Fw.region ?_
    refine Fw.s (Fw.val_assign rfl) rfl ?_
    refine Fw.nil ?_
    refine hK5 _ _ ?_
    refine Fw.ret ?_
    refine Fw.X_ret ?_
    refine Fw.ret_ [.tmp 2] [_] Try.results17 (.tmp rfl .nil) ?_
    exact ⟨false, rfl, ⟨fun h_ => Bool.noConfusion h_, fun h_ => by have := h_.1; have := h_.2.1; omega⟩, rfl⟩
  · rintro h1
    refine Fw.s (Fw.val_move rfl) rfl ?_
    refine Fw.gT (d := 8) rfl rfl ?_
    refine Fw.s (Fw.val_move rfl) rfl ?_
    refine Fw.gT (d := 8) rfl rfl ?_
    refine Fw.s (Fw.val_len Try.underlying23 rfl) rfl ?_
    refine Fw.gT (d := 8) rfl rfl ?_
    refine Fw.s2 (Fw.val_bin rfl rfl Fw.b_gtr) rfl ?_ ?_
    · rintro h9
      refine Fw.s (Fw.val_pickF rfl rfl) rfl ?_
      refine Fw.nil ?_
      refine hK3 _ _ (Fw.FC.sub (f' := [(12, _), (0, _)]) (.cons rfl (.cons rfl .nil)) ?_)
      refine Fw.condT rfl ?_
      refine Fw.seq fun _ hK7 => ?_
      refine Fw.region ?_
      refine Fw.s (Fw.val_assign rfl) rfl ?_
      refine Fw.nil ?_
      refine hK7 _ _ ?_
      refine Fw.ret ?_
      refine Fw.X_ret ?_
      refine Fw.ret_ [.tmp 2] [_] Try.results17 (.tmp rfl .nil) ?_
      exact ⟨false, rfl, ⟨fun h_ => Bool.noConfusion h_, fun h_ => by have := h_.1; have := h_.2.1; omega⟩, rfl⟩
    · rintro h9
      refine Fw.s (Fw.val_pickF rfl rfl) rfl ?_
      refine Fw.nil ?_
      refine hK3 _ _ (Fw.FC.sub (f' := [(12, _), (0, _)]) (.cons rfl (.cons rfl .nil)) ?_)
      refine Fw.condF rfl ?_
      refine Fw.skip ?_
      refine hK2 _ _ ?_
      refine Fw.seq fun _ hK8 => ?_
      refine Fw.seq fun _ hK9 => ?_
      refine Fw.region ?_
      refine Fw.s (Fw.val_move rfl) rfl ?_
      refine Fw.s (Fw.val_len Try.underlying23 rfl) rfl ?_
      refine Fw.s (Fw.val_move rfl) rfl ?_
      refine Fw.nil ?_
      refine hK9 _ _ ?_
      refine Fw.block ?_
      refine Fw.loop (fun m_ f_ W_ => ∃ (k : Nat), m_ = l.length - k ∧ k ≤ l.length ∧ (∀ i, i < k → (0 ≤ El.at_ l i ∧ El.at_ l i ≤ 63) ∧ (0 < i → El.at_ l (i - 1) < El.at_ l i)) ∧ w = W_ ∧ f_ = [(15, .int .i64 k), (14, .int .i64 l.length), (13, .slice A l.length c), (0, .slice A l.length c)]) ⟨_, _, ⟨0, rfl, Nat.zero_le _, (fun j hj => by omega), rfl, rfl⟩, (.cons rfl (.cons rfl (.cons rfl (.cons rfl .nil))))⟩ ?_
      rintro m10_ _ w1 ⟨k, hm10_, hk, hok, hw, rfl⟩
      refine Fw.seq fun _ hK11 => ?_
      refine Fw.region ?_
      refine Fw.s2 (Fw.val_bin rfl rfl Fw.b_lss) rfl ?_ ?_
      · rintro hlt
        refine Fw.nil ?_
        refine hK11 _ _ ?_
        refine Fw.seq fun _ hK13 => ?_
        refine Fw.condT rfl ?_
        refine Fw.skip ?_
        refine hK13 _ _ ?_
        refine Fw.seq fun _ hK14 => ?_
        refine Fw.block ?_
        refine Fw.seq fun _ hK15 => ?_
        have hk2 : k < l.length := by omega
        have eat := El.at_get hk2
        refine Fw.region ?_
        refine Fw.s (Fw.val_move rfl) rfl ?_
        obtain ⟨ad16, b16_, o16_, hA16, hadd16, HIe⟩ := Fw.rdAtM h (k) hk2
        refine Fw.s (Fw.val_indexR Try.underlying23 sz3 rfl hA16 rfl rfl hk2 hadd16) rfl ?_
        refine Fw.ld sc3 rfl ((hw ▸ HIe)) rfl ?_
        refine Fw.s (Fw.val_assign rfl) rfl ?_
        refine Fw.s (Fw.val_assign rfl) rfl ?_
        refine Fw.nil ?_
        refine hK15 _ _ ?_
        refine Fw.seq fun _ hK18 => ?_
        refine Fw.region ?_
        refine Fw.s (Fw.val_move rfl) rfl ?_
        refine Fw.s2 (Fw.val_bin rfl rfl Fw.b_lss) rfl ?_ ?_
        · rintro h0
          refine Fw.s (Fw.val_move rfl) rfl ?_
          refine Fw.gF (d := 22) rfl rfl rfl rfl ?_
          refine Fw.gF (d := 22) rfl rfl rfl rfl ?_
          refine Fw.s (Fw.val_pickT rfl rfl) rfl ?_
          refine Fw.s (Fw.val_move rfl) rfl ?_
          refine Fw.gF (d := 26) rfl rfl rfl rfl ?_
          refine Fw.gF (d := 26) rfl rfl rfl rfl ?_
          refine Fw.gF (d := 26) rfl rfl rfl rfl ?_
          refine Fw.gU (d := 29) rfl rfl rfl ?_
          refine Fw.gU (d := 29) rfl rfl rfl ?_
          refine Fw.gU (d := 29) rfl rfl rfl ?_
          have hk3 : k - 1 < l.length := by omega
          have eat3 := El.at_get hk3
          refine Fw.gU (d := 29) rfl rfl rfl ?_
          refine Fw.gU (d := 29) rfl rfl rfl ?_
          refine Fw.gU (d := 29) rfl rfl rfl ?_
          refine Fw.gU (d := 29) rfl rfl rfl ?_
          refine Fw.gF (d := 26) rfl rfl rfl rfl ?_
          refine Fw.s (Fw.val_pickT rfl rfl) rfl ?_
          refine Fw.nil ?_
          refine hK18 _ _ (Fw.FC.sub (f' := [(38, _), (37, _), (36, _), (35, _), (34, _), (33, _), (32, _), (31, _), (30, _), (29, _), (28, _), (27, _), (24, _), (23, _), (15, _), (14, _), (13, _), (0, _)]) (.cons rfl (.cons rfl (.cons rfl (.cons rfl (.cons rfl (.cons rfl (.cons rfl (.cons rfl (.cons rfl (.cons rfl (.cons rfl (.cons rfl (.cons rfl (.cons rfl (.cons rfl (.cons rfl (.cons rfl (.cons rfl .nil)))))))))))))))))) ?_)
          refine Fw.condT rfl ?_
          refine Fw.seq fun _ hK20 => ?_
          refine Fw.region ?_
          refine Fw.s (Fw.val_assign rfl) rfl ?_
          refine Fw.nil ?_
          refine hK20 _ _ (Fw.FC.sub (f' := [(2, _)]) (.cons rfl .nil) ?_)
          refine Fw.ret ?_
          refine Fw.X_blockR ?_
          refine Fw.X_ret ?_
          refine Fw.X_ret ?_
          refine Fw.X_blockR ?_
          refine Fw.X_ret ?_
          refine Fw.ret_ [.tmp 2] [_] Try.results17 (.tmp rfl .nil) ?_
          exact ⟨false, rfl, ⟨fun h_ => Bool.noConfusion h_, fun h_ => by have h3_ := h_.2.2 k hk2; have h4_ := h3_.2; omega⟩, hw⟩
        · rintro h0
          refine Fw.s (Fw.val_move rfl) rfl ?_
          refine Fw.gT (d := 22) rfl rfl ?_
          refine Fw.s (Fw.val_move rfl) rfl ?_
          refine Fw.gT (d := 22) rfl rfl ?_
          refine Fw.s2 (Fw.val_bin rfl rfl Fw.b_gtr) rfl ?_ ?_
          · rintro h63
            refine Fw.s (Fw.val_pickF rfl rfl) rfl ?_
            refine Fw.s (Fw.val_move rfl) rfl ?_
            refine Fw.gF (d := 26) rfl rfl rfl rfl ?_
            refine Fw.gF (d := 26) rfl rfl rfl rfl ?_
            refine Fw.gF (d := 26) rfl rfl rfl rfl ?_
            refine Fw.gU (d := 29) rfl rfl rfl ?_
            refine Fw.gU (d := 29) rfl rfl rfl ?_
            refine Fw.gU (d := 29) rfl rfl rfl ?_
            have hk3 : k - 1 < l.length := by omega
            have eat3 := El.at_get hk3
            refine Fw.gU (d := 29) rfl rfl rfl ?_
            refine Fw.gU (d := 29) rfl rfl rfl ?_
            refine Fw.gU (d := 29) rfl rfl rfl ?_
            refine Fw.gU (d := 29) rfl rfl rfl ?_
            refine Fw.gF (d := 26) rfl rfl rfl rfl ?_
            refine Fw.s (Fw.val_pickT rfl rfl) rfl ?_
            refine Fw.nil ?_
            refine hK18 _ _ (Fw.FC.sub (f' := [(38, _), (37, _), (36, _), (35, _), (34, _), (33, _), (32, _), (31, _), (30, _), (29, _), (28, _), (27, _), (24, _), (23, _), (15, _), (14, _), (13, _), (0, _)]) (.cons rfl (.cons rfl (.cons rfl (.cons rfl (.cons rfl (.cons rfl (.cons rfl (.cons rfl (.cons rfl (.cons rfl (.cons rfl (.cons rfl (.cons rfl (.cons rfl (.cons rfl (.cons rfl (.cons rfl (.cons rfl .nil)))))))))))))))))) ?_)
            refine Fw.condT rfl ?_
            refine Fw.seq fun _ hK22 => ?_
            refine Fw.region ?_
            refine Fw.s (Fw.val_assign rfl) rfl ?_
            refine Fw.nil ?_
            refine hK22 _ _ (Fw.FC.sub (f' := [(2, _)]) (.cons rfl .nil) ?_)
            refine Fw.ret ?_
            refine Fw.X_blockR ?_
            refine Fw.X_ret ?_
            refine Fw.X_ret ?_
            refine Fw.X_blockR ?_
            refine Fw.X_ret ?_
            refine Fw.ret_ [.tmp 2] [_] Try.results17 (.tmp rfl .nil) ?_
            exact ⟨false, rfl, ⟨fun h_ => Bool.noConfusion h_, fun h_ => by have h3_ := h_.2.2 k hk2; have h4_ := h3_.2; omega⟩, hw⟩
          · rintro h63
            refine Fw.s (Fw.val_pickF rfl rfl) rfl ?_
            refine Fw.s (Fw.val_move rfl) rfl ?_
            refine Fw.gT (d := 26) rfl rfl ?_
            refine Fw.s (Fw.val_move rfl) rfl ?_
            refine Fw.gT (d := 26) rfl rfl ?_
            refine Fw.s2 (Fw.val_bin rfl rfl Fw.b_gtr) rfl ?_ ?_
            · rintro hpos
              refine Fw.gT (d := 26) rfl rfl ?_
              refine Fw.s (Fw.val_move rfl) rfl ?_
              refine Fw.gT (d := 29) rfl rfl ?_
              refine Fw.s (Fw.val_move rfl) rfl ?_
              refine Fw.gT (d := 29) rfl rfl ?_
              refine Fw.s (Fw.val_move rfl) rfl ?_
              refine Fw.gT (d := 29) rfl rfl ?_
              refine Fw.s (Fw.val_move rfl) rfl ?_
              have hk3 : k - 1 < l.length := by omega
              have eat3 := El.at_get hk3
              refine Fw.gT (d := 29) rfl rfl ?_
              refine Fw.s (Fw.val_bin rfl rfl (Fw.b_sub (Fw.i64_ok (by omega)))) rfl ?_
              refine Fw.gT (d := 29) rfl rfl ?_
              obtain ⟨ad24, b24_, o24_, hA24, hadd24, HIf⟩ := Fw.rdAtM h (k - 1) hk3
              refine Fw.s (Fw.val_indexR Try.underlying23 sz3 rfl hA24 rfl (by omega) hk3 hadd24) rfl ?_
              refine Fw.gT (d := 29) rfl rfl ?_
              refine Fw.ld sc3 rfl ((hw ▸ HIf)) rfl ?_
              refine Fw.gT (d := 29) rfl rfl ?_
              refine Fw.s2 (Fw.val_bin rfl rfl Fw.b_leq) rfl ?_ ?_
              · rintro hle
                refine Fw.gT (d := 26) rfl rfl ?_
                refine Fw.s (Fw.val_pickT rfl rfl) rfl ?_
                refine Fw.s (Fw.val_pickF rfl rfl) rfl ?_
                refine Fw.nil ?_
                refine hK18 _ _ (Fw.FC.sub (f' := [(38, _), (37, _), (36, _), (35, _), (34, _), (33, _), (32, _), (31, _), (30, _), (29, _), (28, _), (27, _), (24, _), (23, _), (15, _), (14, _), (13, _), (0, _)]) (.cons rfl (.cons rfl (.cons rfl (.cons rfl (.cons rfl (.cons rfl (.cons rfl (.cons rfl (.cons rfl (.cons rfl (.cons rfl (.cons rfl (.cons rfl (.cons rfl (.cons rfl (.cons rfl (.cons rfl (.cons rfl .nil)))))))))))))))))) ?_)
                refine Fw.condT rfl ?_
                refine Fw.seq fun _ hK27 => ?_
                refine Fw.region ?_
                refine Fw.s (Fw.val_assign rfl) rfl ?_
                refine Fw.nil ?_
                refine hK27 _ _ (Fw.FC.sub (f' := [(2, _)]) (.cons rfl .nil) ?_)
                refine Fw.ret ?_
                refine Fw.X_blockR ?_
                refine Fw.X_ret ?_
                refine Fw.X_ret ?_
                refine Fw.X_blockR ?_
                refine Fw.X_ret ?_
                refine Fw.ret_ [.tmp 2] [_] Try.results17 (.tmp rfl .nil) ?_
                exact ⟨false, rfl, ⟨fun h_ => Bool.noConfusion h_, fun h_ => by have h3_ := h_.2.2 k hk2; have h4_ := h3_.2; omega⟩, hw⟩
              · rintro hle
                refine Fw.gT (d := 26) rfl rfl ?_
                refine Fw.s (Fw.val_pickT rfl rfl) rfl ?_
                refine Fw.s (Fw.val_pickF rfl rfl) rfl ?_
                refine Fw.nil ?_
                refine hK18 _ _ (Fw.FC.sub (f' := [(38, _), (37, _), (36, _), (35, _), (34, _), (33, _), (32, _), (31, _), (30, _), (29, _), (28, _), (27, _), (24, _), (23, _), (15, _), (14, _), (13, _), (0, _)]) (.cons rfl (.cons rfl (.cons rfl (.cons rfl (.cons rfl (.cons rfl (.cons rfl (.cons rfl (.cons rfl (.cons rfl (.cons rfl (.cons rfl (.cons rfl (.cons rfl (.cons rfl (.cons rfl (.cons rfl (.cons rfl .nil)))))))))))))))))) ?_)
                refine Fw.condF rfl ?_
                refine Fw.skip ?_
                refine Fw.X_blockN ?_
                refine hK14 _ _ ?_
                refine Fw.region ?_
                refine Fw.s (Fw.val_bin rfl rfl (Fw.b_add (Fw.i64_ok (by omega)))) rfl ?_
                refine Fw.s (Fw.val_move rfl) rfl ?_
                refine Fw.nil ?_
                refine Fw.roundEnd _ _ (by omega) ⟨k + 1, rfl, by omega, (fun j hj => by rcases Nat.lt_succ_iff_lt_or_eq.1 hj with h_ | h_; exact hok j h_; subst h_; refine ⟨by omega, fun _ => by omega⟩), hw, rfl⟩ (.cons rfl (.cons rfl (.cons rfl (.cons rfl .nil))))
            · rintro hpos
              refine Fw.gT (d := 26) rfl rfl ?_
              refine Fw.s (Fw.val_move rfl) rfl ?_
              refine Fw.gF (d := 29) rfl rfl rfl rfl ?_
              refine Fw.gF (d := 29) rfl rfl rfl rfl ?_
              refine Fw.gF (d := 29) rfl rfl rfl rfl ?_
              have hk3 : k - 1 < l.length := by omega
              have eat3 := El.at_get hk3
              refine Fw.gF (d := 29) rfl rfl rfl rfl ?_
              refine Fw.gF (d := 29) rfl rfl rfl rfl ?_
              refine Fw.gF (d := 29) rfl rfl rfl rfl ?_
              refine Fw.gF (d := 29) rfl rfl rfl rfl ?_
              refine Fw.gT (d := 26) rfl rfl ?_
              refine Fw.s (Fw.val_pickF rfl rfl) rfl ?_
              refine Fw.s (Fw.val_pickF rfl rfl) rfl ?_
              refine Fw.nil ?_
              refine hK18 _ _ (Fw.FC.sub (f' := [(38, _), (37, _), (36, _), (35, _), (34, _), (33, _), (32, _), (31, _), (30, _), (29, _), (28, _), (27, _), (24, _), (23, _), (15, _), (14, _), (13, _), (0, _)]) (.cons rfl (.cons rfl (.cons rfl (.cons rfl (.cons rfl (.cons rfl (.cons rfl (.cons rfl (.cons rfl (.cons rfl (.cons rfl (.cons rfl (.cons rfl (.cons rfl (.cons rfl (.cons rfl (.cons rfl (.cons rfl .nil)))))))))))))))))) ?_)
              refine Fw.condF rfl ?_
              refine Fw.skip ?_
              refine Fw.X_blockN ?_
              refine hK14 _ _ ?_
              refine Fw.region ?_
              refine Fw.s (Fw.val_bin rfl rfl (Fw.b_add (Fw.i64_ok (by omega)))) rfl ?_
              refine Fw.s (Fw.val_move rfl) rfl ?_
              refine Fw.nil ?_
              refine Fw.roundEnd _ _ (by omega) ⟨k + 1, rfl, by omega, (fun j hj => by rcases Nat.lt_succ_iff_lt_or_eq.1 hj with h_ | h_; exact hok j h_; subst h_; refine ⟨by omega, fun _ => by omega⟩), hw, rfl⟩ (.cons rfl (.cons rfl (.cons rfl (.cons rfl .nil))))
      · rintro hlt
        refine Fw.nil ?_
        refine hK11 _ _ ?_
        refine Fw.seq fun _ hK28 => ?_
        refine Fw.condF rfl ?_
        refine Fw.exit ?_
        refine Fw.X_exit ?_
        refine Fw.X_exit ?_
        refine Fw.X_block ?_
        refine hK8 _ _ ?_
        refine Fw.seq fun _ hK29 => ?_
        refine Fw.region ?_
        refine Fw.s (Fw.val_assign rfl) rfl ?_
        refine Fw.nil ?_
        refine hK29 _ _ ?_
        refine Fw.ret ?_
        refine Fw.ret_ [.tmp 2] [_] Try.results17 (.tmp rfl .nil) ?_
        exact ⟨true, rfl, ⟨fun _ => ⟨by omega, by omega, fun i hi => hok i (by omega)⟩, fun _ => rfl⟩, hw⟩

set_option maxRecDepth 100000 in
set_option maxHeartbeats 1000000 in
theorem majority_any (w : World) (A : Option Addr) (l : List Int) (c : Nat) (hl : l.length ≤ 65536) : Calls Try.prog 47 #[.slice A l.length c] w fun e_ w' => e_ = .returned (.int .i64 ((l.length / 2 + 1 : Nat) : Int)) ∧ w = w' := by
  refine Fw.calls Try.func47 rfl Try.ntmps47 rfl ?_
  have e2 : (l.length : Int).tdiv 2 = ((l.length / 2 : Nat) : Int) := by rw [Int.tdiv_eq_ediv_of_nonneg (by omega)]; omega
  refine Fw.seq fun _ hK1 => ?_
  refine Fw.region ?_
  refine Fw.s (Fw.val_assign rfl) rfl ?_
  refine Fw.nil ?_
  refine hK1 _ _ ?_
  refine Fw.seq fun _ hK2 => ?_
  refine Fw.region ?_
  refine Fw.s (Fw.val_move rfl) rfl ?_
  refine Fw.s (Fw.val_len Try.underlying23 rfl) rfl ?_
  refine Fw.s (Fw.val_bin rfl rfl (Fw.b_quo (by decide) (show IntKind.i64.wrap _ = ((l.length / 2 : Nat) : Int) from by rw [e2]; exact Fw.i64_ok (by omega)))) rfl ?_
  refine Fw.s (Fw.val_bin rfl rfl (Fw.b_add (Fw.i64_ok (by omega)))) rfl ?_
  refine Fw.s (Fw.val_assign rfl) rfl ?_
  refine Fw.nil ?_
  refine hK2 _ _ ?_
  refine Fw.ret ?_
  refine Fw.ret_ [.tmp 2] [_] Try.results47 (.tmp rfl .nil) ?_
  exact ⟨rfl, rfl⟩

set_option maxRecDepth 100000 in
set_option maxHeartbeats 1000000 in
theorem index_any (w : World) (A : Option Addr) (l : List Int) (c : Nat) (h : Rd w A (l.map (.int .i64))) (hl : l.length ≤ 65536) (v : Int) : Calls Try.prog 57 #[.slice A l.length c, .int .i64 v] w fun e_ w' => ∃ i, e_ = .returned (.int .i64 i) ∧ (0 ≤ i ↔ v ∈ l) ∧ w = w' := by
  refine Fw.calls Try.func57 rfl Try.ntmps57 rfl ?_
  refine Fw.seq fun _ hK1 => ?_
  refine Fw.region ?_
  refine Fw.s (Fw.val_assign rfl) rfl ?_
  refine Fw.nil ?_
  refine hK1 _ _ ?_
  refine Fw.seq fun _ hK2 => ?_
  refine Fw.seq fun _ hK3 => ?_
  refine Fw.region ?_
  refine Fw.s (Fw.val_move rfl) rfl ?_
  refine Fw.s (Fw.val_len Try.underlying23 rfl) rfl ?_
  refine Fw.s (Fw.val_move rfl) rfl ?_
  refine Fw.nil ?_
  refine hK3 _ _ ?_
  refine Fw.block ?_
  refine Fw.loop (fun m_ f_ W_ => ∃ (k : Nat), m_ = l.length - k ∧ k ≤ l.length ∧ v ∉ l.take k ∧ w = W_ ∧ f_ = [(8, .int .i64 k), (7, .int .i64 l.length), (0, .slice A l.length c), (1, .int .i64 v)]) ⟨_, _, ⟨0, rfl, Nat.zero_le _, (by simp), rfl, rfl⟩, (.cons rfl (.cons rfl (.cons rfl (.cons rfl .nil))))⟩ ?_
  rintro m4_ _ w1 ⟨k, hm4_, hk, hno, hw, rfl⟩
  refine Fw.seq fun _ hK5 => ?_
  refine Fw.region ?_
  refine Fw.s2 (Fw.val_bin rfl rfl Fw.b_lss) rfl ?_ ?_
  · rintro hlt
    refine Fw.nil ?_
    refine hK5 _ _ ?_
    refine Fw.seq fun _ hK7 => ?_
    refine Fw.condT rfl ?_
    refine Fw.skip ?_
    refine hK7 _ _ ?_
    refine Fw.seq fun _ hK8 => ?_
    refine Fw.block ?_
    refine Fw.seq fun _ hK9 => ?_
    have hk2 : k < l.length := by omega
    refine Fw.region ?_
    refine Fw.s (Fw.val_move rfl) rfl ?_
    refine Fw.s (Fw.val_assign rfl) rfl ?_
    refine Fw.nil ?_
    refine hK9 _ _ ?_
    refine Fw.seq fun _ hK10 => ?_
    refine Fw.region ?_
    refine Fw.s (Fw.val_move rfl) rfl ?_
    refine Fw.s (Fw.val_move rfl) rfl ?_
    refine Fw.s (Fw.val_move rfl) rfl ?_
    obtain ⟨ad11, b11_, o11_, hA11, hadd11, HIe⟩ := Fw.rdAtM h (k) hk2
    refine Fw.s (Fw.val_indexR Try.underlying23 sz3 rfl hA11 rfl rfl hk2 hadd11) rfl ?_
    refine Fw.ld sc3 rfl ((hw ▸ HIe)) rfl ?_
    refine Fw.s2 (Fw.val_bin rfl rfl Fw.b_eql) rfl ?_ ?_
    · rintro hne
      refine Fw.nil ?_
      refine hK10 _ _ (Fw.FC.sub (f' := [(16, _), (5, _), (8, _), (7, _), (0, _), (1, _)]) (.cons rfl (.cons rfl (.cons rfl (.cons rfl (.cons rfl (.cons rfl .nil)))))) ?_)
      refine Fw.condT rfl ?_
      refine Fw.seq fun _ hK14 => ?_
      refine Fw.region ?_
      refine Fw.s (Fw.val_move rfl) rfl ?_
      refine Fw.s (Fw.val_assign rfl) rfl ?_
      refine Fw.nil ?_
      refine hK14 _ _ (Fw.FC.sub (f' := [(4, _)]) (.cons rfl .nil) ?_)
      refine Fw.ret ?_
      refine Fw.X_blockR ?_
      refine Fw.X_ret ?_
      refine Fw.X_ret ?_
      refine Fw.X_blockR ?_
      refine Fw.X_ret ?_
      refine Fw.ret_ [.tmp 4] [_] Try.results57 (.tmp rfl .nil) ?_
      exact ⟨_, rfl, ⟨fun _ => by rw [hne]; exact List.getElem_mem hk2, fun _ => by omega⟩, hw⟩
    · rintro hne
      refine Fw.nil ?_
      refine hK10 _ _ (Fw.FC.sub (f' := [(16, _), (5, _), (8, _), (7, _), (0, _), (1, _)]) (.cons rfl (.cons rfl (.cons rfl (.cons rfl (.cons rfl (.cons rfl .nil)))))) ?_)
      refine Fw.condF rfl ?_
      refine Fw.skip ?_
      refine Fw.X_blockN ?_
      refine hK8 _ _ ?_
      refine Fw.region ?_
      refine Fw.s (Fw.val_bin rfl rfl (Fw.b_add (Fw.i64_ok (by omega)))) rfl ?_
      refine Fw.s (Fw.val_move rfl) rfl ?_
      refine Fw.nil ?_
      refine Fw.roundEnd _ _ (by omega) ⟨k + 1, rfl, by omega, by rw [List.take_succ_eq_append_getElem hk2]; intro hm; rcases List.mem_append.1 hm with hm | hm; exact hno hm; exact hne (List.mem_singleton.1 hm), hw, rfl⟩ (.cons rfl (.cons rfl (.cons rfl (.cons rfl .nil))))
  · rintro hlt
    refine Fw.nil ?_
    refine hK5 _ _ ?_
    refine Fw.seq fun _ hK15 => ?_
    refine Fw.condF rfl ?_
    refine Fw.exit ?_
    refine Fw.X_exit ?_
    refine Fw.X_exit ?_
    refine Fw.X_block ?_
    refine hK2 _ _ ?_
    refine Fw.seq fun _ hK16 => ?_
    refine Fw.region ?_
    refine Fw.s (Fw.val_assign rfl) rfl ?_
    refine Fw.nil ?_
    refine hK16 _ _ ?_
    refine Fw.ret ?_
    refine Fw.ret_ [.tmp 4] [_] Try.results57 (.tmp rfl .nil) ?_
    rw [List.take_of_length_le (by omega)] at hno
    exact ⟨_, rfl, ⟨fun h_ => by omega, fun h_ => absurd h_ hno⟩, hw⟩

set_option maxRecDepth 100000 in
set_option maxHeartbeats 1000000 in
theorem contains_any (w : World) (A : Option Addr) (l : List Int) (c : Nat) (h : Rd w A (l.map (.int .i64))) (hl : l.length ≤ 65536) (v : Int) : Calls Try.prog 46 #[.slice A l.length c, .int .i64 v] w fun e_ w' => ∃ b, e_ = .returned (.bool b) ∧ (b = true ↔ v ∈ l) ∧ w = w' := by
  refine Fw.calls Try.func46 rfl Try.ntmps46 rfl ?_
  refine Fw.seq fun _ hK1 => ?_
  refine Fw.region ?_
  refine Fw.s (Fw.val_assign rfl) rfl ?_
  refine Fw.nil ?_
  refine hK1 _ _ ?_
  refine Fw.seq fun _ hK2 => ?_
  refine Fw.region ?_
  refine Fw.s (Fw.val_move rfl) rfl ?_
  refine Fw.s (Fw.val_move rfl) rfl ?_
  refine Fw.call cf57 rfl rfl (index_any _ A l c h hl v) ?_
  rintro e_ _ ⟨i7, rfl, h7, rfl⟩
  refine ⟨_, rfl, ?_⟩
  refine Fw.s2 (Fw.val_bin rfl rfl Fw.b_geq) rfl ?_ ?_
  · rintro hge
    refine Fw.s (Fw.val_assign rfl) rfl ?_
    refine Fw.nil ?_
    refine hK2 _ _ (Fw.FC.sub (f' := [(4, _)]) (.cons rfl .nil) ?_)
    refine Fw.ret ?_
    refine Fw.ret_ [.tmp 4] [_] Try.results46 (.tmp rfl .nil) ?_
    exact ⟨true, rfl, ⟨fun _ => h7.1 hge, fun _ => rfl⟩, rfl⟩
  · rintro hge
    refine Fw.s (Fw.val_assign rfl) rfl ?_
    refine Fw.nil ?_
    refine hK2 _ _ (Fw.FC.sub (f' := [(4, _)]) (.cons rfl .nil) ?_)
    refine Fw.ret ?_
    refine Fw.ret_ [.tmp 4] [_] Try.results46 (.tmp rfl .nil) ?_
    exact ⟨false, rfl, ⟨fun h_ => Bool.noConfusion h_, fun h_ => absurd (h7.2 h_) hge⟩, rfl⟩

set_option maxRecDepth 100000 in
set_option maxHeartbeats 1000000 in
theorem qcontains_any (w : World) (A : Option Addr) (l : List Int) (c : Nat) (h : Rd w A (l.map (.int .i64))) (hl : l.length ≤ 65536) (Ay : Option Addr) (yes : List Int) (cy : Nat) (hy : Rd w Ay (yes.map (.int .i64))) (hyl : yes.length ≤ 65536) : Calls Try.prog 34 #[.slice A l.length c, .slice Ay yes.length cy] w fun e_ w' => ∃ b, e_ = .returned (.bool b) ∧ (b = true ↔ El.Mj l yes) ∧ w = w' := by
  refine Fw.calls Try.func34 rfl Try.ntmps34 rfl ?_
  refine Fw.seq fun _ hK1 => ?_
  refine Fw.region ?_
  refine Fw.s (Fw.val_assign rfl) rfl ?_
  refine Fw.nil ?_
  refine hK1 _ _ ?_
  refine Fw.seq fun _ hK2 => ?_
  refine Fw.region ?_
  refine Fw.s (Fw.val_assign rfl) rfl ?_
  refine Fw.nil ?_
  refine hK2 _ _ ?_
  refine Fw.seq fun _ hK3 => ?_
  refine Fw.seq fun _ hK4 => ?_
  refine Fw.region ?_
  refine Fw.s (Fw.val_move rfl) rfl ?_
  refine Fw.s (Fw.val_len Try.underlying23 rfl) rfl ?_
  refine Fw.s (Fw.val_move rfl) rfl ?_
  refine Fw.nil ?_
  refine hK4 _ _ ?_
  refine Fw.block ?_
  refine Fw.loop (fun m_ f_ W_ => ∃ (k : Nat) (n : Nat), m_ = l.length - k ∧ k ≤ l.length ∧ n = El.cnt yes (l.take k) ∧ w = W_ ∧ f_ = [(10, .int .i64 k), (9, .int .i64 l.length), (8, .slice A l.length c), (5, .int .i64 n), (0, .slice A l.length c), (1, .slice Ay yes.length cy)]) ⟨_, _, ⟨0, 0, rfl, Nat.zero_le _, rfl, rfl, rfl⟩, (.cons rfl (.cons rfl (.cons rfl (.cons rfl (.cons rfl (.cons rfl .nil))))))⟩ ?_
  rintro m5_ _ w1 ⟨k, n, hm5_, hk, hn, hw, rfl⟩
  refine Fw.seq fun _ hK6 => ?_
  refine Fw.region ?_
  refine Fw.s2 (Fw.val_bin rfl rfl Fw.b_lss) rfl ?_ ?_
  · rintro hlt
    refine Fw.nil ?_
    refine hK6 _ _ ?_
    refine Fw.seq fun _ hK8 => ?_
    refine Fw.condT rfl ?_
    refine Fw.skip ?_
    refine hK8 _ _ ?_
    refine Fw.seq fun _ hK9 => ?_
    refine Fw.block ?_
    refine Fw.seq fun _ hK10 => ?_
    have hk2 : k < l.length := by omega
    have hnl : n ≤ l.length := by have := El.cnt_le yes (l.take k); rw [List.length_take] at this; omega
    refine Fw.region ?_
    obtain ⟨ad11, b11_, o11_, hA11, hadd11, HIe⟩ := Fw.rdAtM h (k) hk2
    refine Fw.s (Fw.val_indexR Try.underlying23 sz3 rfl hA11 rfl rfl hk2 hadd11) rfl ?_
    refine Fw.ld sc3 rfl ((hw ▸ HIe)) rfl ?_
    refine Fw.s (Fw.val_assign rfl) rfl ?_
    refine Fw.nil ?_
    refine hK10 _ _ ?_
    refine Fw.seq fun _ hK13 => ?_
    refine Fw.region ?_
    refine Fw.s (Fw.val_move rfl) rfl ?_
    refine Fw.s (Fw.val_move rfl) rfl ?_
    refine Fw.call cf46 rfl rfl (contains_any _ Ay yes cy (hw ▸ hy) hyl l[k]) ?_
    rintro e_ _ ⟨b7, rfl, h7, rfl⟩
    refine ⟨_, rfl, ?_⟩
    refine Fw.b2 ?_ ?_
    · rintro rfl
      refine Fw.nil ?_
      refine hK13 _ _ (Fw.FC.sub (f' := [(16, _), (10, _), (9, _), (8, _), (5, _), (0, _), (1, _)]) (.cons rfl (.cons rfl (.cons rfl (.cons rfl (.cons rfl (.cons rfl (.cons rfl .nil))))))) ?_)
      refine Fw.condT rfl ?_
      refine Fw.region ?_
      refine Fw.s (Fw.val_move rfl) rfl ?_
      refine Fw.s (Fw.val_bin rfl rfl (Fw.b_add (Fw.i64_ok (by omega)))) rfl ?_
      refine Fw.s (Fw.val_assign rfl) rfl ?_
      refine Fw.nil ?_
      refine Fw.X_blockN ?_
      refine hK9 _ _ ?_
      refine Fw.region ?_
      refine Fw.s (Fw.val_bin rfl rfl (Fw.b_add (Fw.i64_ok (by omega)))) rfl ?_
      refine Fw.s (Fw.val_move rfl) rfl ?_
      refine Fw.nil ?_
      refine Fw.roundEnd _ _ (by omega) ⟨k + 1, n + 1, rfl, by omega, by rw [El.cnt_step hk2, if_pos (h7.1 rfl), hn], hw, rfl⟩ (.cons rfl (.cons rfl (.cons rfl (.cons rfl (.cons rfl (.cons rfl .nil))))))
    · rintro rfl
      refine Fw.nil ?_
      refine hK13 _ _ (Fw.FC.sub (f' := [(16, _), (10, _), (9, _), (8, _), (5, _), (0, _), (1, _)]) (.cons rfl (.cons rfl (.cons rfl (.cons rfl (.cons rfl (.cons rfl (.cons rfl .nil))))))) ?_)
      refine Fw.condF rfl ?_
      refine Fw.skip ?_
      refine Fw.X_blockN ?_
      refine hK9 _ _ ?_
      refine Fw.region ?_
      refine Fw.s (Fw.val_bin rfl rfl (Fw.b_add (Fw.i64_ok (by omega)))) rfl ?_
      refine Fw.s (Fw.val_move rfl) rfl ?_
      refine Fw.nil ?_
      refine Fw.roundEnd _ _ (by omega) ⟨k + 1, n, rfl, by omega, by rw [El.cnt_step hk2, if_neg (fun h_ => by have := h7.2 h_; simp at this), hn, Nat.add_zero], hw, rfl⟩ (.cons rfl (.cons rfl (.cons rfl (.cons rfl (.cons rfl (.cons rfl .nil))))))
  · rintro hlt
    refine Fw.nil ?_
    refine hK6 _ _ ?_
    refine Fw.seq fun _ hK14 => ?_
    refine Fw.condF rfl ?_
    refine Fw.exit ?_
    refine Fw.X_exit ?_
    refine Fw.X_exit ?_
    refine Fw.X_block ?_
    refine hK3 _ _ ?_
    refine Fw.seq fun _ hK15 => ?_
    rw [List.take_of_length_le (by omega)] at hn
    refine Fw.region ?_
    refine Fw.s (Fw.val_move rfl) rfl ?_
    refine Fw.s (Fw.val_move rfl) rfl ?_
    refine Fw.call cf47 rfl rfl (majority_any _ A l c hl) ?_
    rintro e_ _ ⟨rfl, rfl⟩
    refine ⟨_, rfl, ?_⟩
    refine Fw.s2 (Fw.val_bin rfl rfl Fw.b_geq) rfl ?_ ?_
    · rintro hge
      refine Fw.s (Fw.val_assign rfl) rfl ?_
      refine Fw.nil ?_
      refine hK15 _ _ (Fw.FC.sub (f' := [(4, _)]) (.cons rfl .nil) ?_)
      refine Fw.ret ?_
      refine Fw.ret_ [.tmp 4] [_] Try.results34 (.tmp rfl .nil) ?_
      exact ⟨true, rfl, ⟨fun _ => by unfold El.Mj; omega, fun _ => rfl⟩, hw⟩
    · rintro hge
      refine Fw.s (Fw.val_assign rfl) rfl ?_
      refine Fw.nil ?_
      refine hK15 _ _ (Fw.FC.sub (f' := [(4, _)]) (.cons rfl .nil) ?_)
      refine Fw.ret ?_
      refine Fw.ret_ [.tmp 4] [_] Try.results34 (.tmp rfl .nil) ?_
      exact ⟨false, rfl, ⟨fun h_ => Bool.noConfusion h_, fun h_ => by unfold El.Mj at h_; omega⟩, hw⟩

end Go.Proofs.Ytgpdodhegacndaa
