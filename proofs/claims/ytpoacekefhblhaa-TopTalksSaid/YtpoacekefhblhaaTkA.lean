/- TopTalks: package protocol: what is valid. -/
import Derived.Test.YtpoacekefhblhaaTk
namespace Go.Proofs.Ytpoacekefhblhaa
set_option linter.unusedSimpArgs false
set_option linter.unusedVariables false
open Go.RowKit

set_option maxRecDepth 100000 in
set_option maxHeartbeats 1000000 in
theorem consists_any (s : ByteArray) (n lo hi : Int) (hn : n ≤ 1000) (w : World) : Calls Try.prog 36 #[.string s, .int .i64 n, .int .u8 lo, .int .u8 hi] w fun e_ w' => ∃ b, e_ = .returned (.bool b) ∧ (b = true ↔ Tk.Cons s n lo hi) ∧ w = w' := by
  refine Fw.calls Try.func36 rfl Try.ntmps36 rfl ?_
  refine Fw.seq fun _ hK1 => ?_
  refine Fw.region ?_
  refine Fw.s (Fw.val_assign rfl) rfl ?_
  refine Fw.nil ?_
  refine hK1 _ _ ?_
  refine Fw.seq fun _ hK2 => ?_
  refine Fw.seq fun _ hK3 => ?_
  refine Fw.region ?_
  refine Fw.s (Fw.val_move rfl) rfl ?_
  refine Fw.s2 (Fw.val_bin rfl rfl Fw.b_eqlS) rfl ?_ ?_
  · rintro hE
    refine Fw.s (Fw.val_move rfl) rfl ?_
    refine Fw.gF (d := 12) rfl rfl rfl rfl ?_
    refine Fw.gF (d := 12) rfl rfl rfl rfl ?_
    refine Fw.gF (d := 12) rfl rfl rfl rfl ?_
    refine Fw.gF (d := 12) rfl rfl rfl rfl ?_
    refine Fw.s (Fw.val_pickT rfl rfl) rfl ?_
    refine Fw.nil ?_
    refine hK3 _ _ (Fw.FC.sub (f' := [(17, _), (0, _), (2, _), (3, _)]) (.cons rfl (.cons rfl (.cons rfl (.cons rfl .nil)))) ?_)
    refine Fw.condT rfl ?_
    refine Fw.seq fun _ hK5 => ?_
    refine Fw.region ?_
    refine Fw.s (Fw.val_assign rfl) rfl ?_
    refine Fw.nil ?_
    refine hK5 _ _ ?_
    refine Fw.ret ?_
    refine Fw.X_ret ?_
    refine Fw.ret_ [.tmp 8] [_] Try.results36 (.tmp rfl .nil) ?_
    exact ⟨false, rfl, ⟨fun h => (Bool.noConfusion h), fun h => absurd ((Tk.empty_iff rfl).1 hE) h.1⟩, rfl⟩
  · rintro hE
    refine Fw.s (Fw.val_move rfl) rfl ?_
    refine Fw.gT (d := 12) rfl rfl ?_
    refine Fw.s (Fw.val_move rfl) rfl ?_
    refine Fw.gT (d := 12) rfl rfl ?_
    refine Fw.s (Fw.val_lenS Try.underlying9 rfl) rfl ?_
    refine Fw.gT (d := 12) rfl rfl ?_
    refine Fw.s (Fw.val_move rfl) rfl ?_
    refine Fw.gT (d := 12) rfl rfl ?_
    refine Fw.s2 (Fw.val_bin rfl rfl Fw.b_gtr) rfl ?_ ?_
    · rintro hN
      refine Fw.s (Fw.val_pickF rfl rfl) rfl ?_
      refine Fw.nil ?_
      refine hK3 _ _ (Fw.FC.sub (f' := [(17, _), (0, _), (2, _), (3, _)]) (.cons rfl (.cons rfl (.cons rfl (.cons rfl .nil)))) ?_)
      refine Fw.condT rfl ?_
      refine Fw.seq fun _ hK7 => ?_
      refine Fw.region ?_
      refine Fw.s (Fw.val_assign rfl) rfl ?_
      refine Fw.nil ?_
      refine hK7 _ _ ?_
      refine Fw.ret ?_
      refine Fw.X_ret ?_
      refine Fw.ret_ [.tmp 8] [_] Try.results36 (.tmp rfl .nil) ?_
      exact ⟨false, rfl, ⟨fun h => (Bool.noConfusion h), fun h => by have := h.2.1; omega⟩, rfl⟩
    · rintro hN
      refine Fw.s (Fw.val_pickF rfl rfl) rfl ?_
      refine Fw.nil ?_
      refine hK3 _ _ (Fw.FC.sub (f' := [(17, _), (0, _), (2, _), (3, _)]) (.cons rfl (.cons rfl (.cons rfl (.cons rfl .nil)))) ?_)
      refine Fw.condF rfl ?_
      refine Fw.skip ?_
      refine hK2 _ _ ?_
      refine Fw.seq fun _ hK8 => ?_
      refine Fw.seq fun _ hK9 => ?_
      refine Fw.region ?_
      refine Fw.s (Fw.val_move rfl) rfl ?_
      refine Fw.s (Fw.val_lenS Try.underlying9 rfl) rfl ?_
      refine Fw.s (Fw.val_move rfl) rfl ?_
      refine Fw.nil ?_
      refine hK9 _ _ ?_
      refine Fw.block ?_
      refine Fw.loop (fun m_ f_ W_ => ∃ (k : Nat), m_ = s.size - k ∧ k ≤ s.size ∧ (∀ j : Nat, j < k → lo ≤ Tk.byt s j ∧ Tk.byt s j ≤ hi) ∧ w = W_ ∧ f_ = [(20, .int .i64 k), (19, .int .i64 s.size), (0, .string s), (2, .int .u8 lo), (3, .int .u8 hi)]) ⟨_, _, ⟨0, rfl, Nat.zero_le _, (fun j hj => by omega), rfl, rfl⟩, (.cons rfl (.cons rfl (.cons rfl (.cons rfl (.cons rfl .nil)))))⟩ ?_
      rintro m10_ _ w1 ⟨k, hm10_, hk, hok, hw, rfl⟩
      refine Fw.seq fun _ hK11 => ?_
      refine Fw.region ?_
      refine Fw.s2 (Fw.val_bin rfl rfl Fw.b_lss) rfl ?_ ?_
      · rintro hlt
        refine Fw.nil ?_
        refine hK11 _ _ ?_
        refine Fw.seq fun _ hK13 => ?_
        refine Fw.condT rfl ?_
        refine Fw.skip ?_
        refine hK13 _ _ ?_
        refine Fw.seq fun _ hK14 => ?_
        refine Fw.block ?_
        refine Fw.seq fun _ hK15 => ?_
        have hk2 : k < s.size := by omega
        refine Fw.region ?_
        refine Fw.s (Fw.val_move rfl) rfl ?_
        refine Fw.s (Fw.val_assign rfl) rfl ?_
        refine Fw.nil ?_
        refine hK15 _ _ ?_
        refine Fw.seq fun _ hK16 => ?_
        refine Fw.region ?_
        refine Fw.s (Fw.val_move rfl) rfl ?_
        refine Fw.s (Fw.val_move rfl) rfl ?_
        refine Fw.s (Fw.val_indexS Try.underlying9 rfl rfl rfl (by omega)) rfl ?_
        refine Fw.s (Fw.val_move rfl) rfl ?_
        refine Fw.s2 (Fw.val_bin rfl rfl Fw.b_lss) rfl ?_ ?_
        · rintro hlo
          refine Fw.s (Fw.val_move rfl) rfl ?_
          refine Fw.gF (d := 28) rfl rfl rfl rfl ?_
          refine Fw.gF (d := 28) rfl rfl rfl rfl ?_
          refine Fw.gF (d := 28) rfl rfl rfl rfl ?_
          refine Fw.gF (d := 28) rfl rfl rfl rfl ?_
          refine Fw.gF (d := 28) rfl rfl rfl rfl ?_
          refine Fw.s (Fw.val_pickT rfl rfl) rfl ?_
          refine Fw.nil ?_
          refine hK16 _ _ (Fw.FC.sub (f' := [(34, _), (33, _), (32, _), (31, _), (30, _), (29, _), (20, _), (19, _), (0, _), (2, _), (3, _)]) (.cons rfl (.cons rfl (.cons rfl (.cons rfl (.cons rfl (.cons rfl (.cons rfl (.cons rfl (.cons rfl (.cons rfl (.cons rfl .nil))))))))))) ?_)
          refine Fw.condT rfl ?_
          refine Fw.seq fun _ hK18 => ?_
          refine Fw.region ?_
          refine Fw.s (Fw.val_assign rfl) rfl ?_
          refine Fw.nil ?_
          refine hK18 _ _ (Fw.FC.sub (f' := [(8, _)]) (.cons rfl .nil) ?_)
          refine Fw.ret ?_
          refine Fw.X_blockR ?_
          refine Fw.X_ret ?_
          refine Fw.X_ret ?_
          refine Fw.X_blockR ?_
          refine Fw.X_ret ?_
          refine Fw.ret_ [.tmp 8] [_] Try.results36 (.tmp rfl .nil) ?_
          exact ⟨false, rfl, ⟨fun h => (Bool.noConfusion h), fun h => by have := h.2.2 k hk2; omega⟩, hw⟩
        · rintro hlo
          refine Fw.s (Fw.val_move rfl) rfl ?_
          refine Fw.gT (d := 28) rfl rfl ?_
          refine Fw.s (Fw.val_move rfl) rfl ?_
          refine Fw.gT (d := 28) rfl rfl ?_
          refine Fw.s (Fw.val_move rfl) rfl ?_
          refine Fw.gT (d := 28) rfl rfl ?_
          refine Fw.s (Fw.val_indexS Try.underlying9 rfl rfl rfl (by omega)) rfl ?_
          refine Fw.gT (d := 28) rfl rfl ?_
          refine Fw.s (Fw.val_move rfl) rfl ?_
          refine Fw.gT (d := 28) rfl rfl ?_
          refine Fw.s2 (Fw.val_bin rfl rfl Fw.b_gtr) rfl ?_ ?_
          · rintro hhi
            refine Fw.s (Fw.val_pickF rfl rfl) rfl ?_
            refine Fw.nil ?_
            refine hK16 _ _ (Fw.FC.sub (f' := [(34, _), (33, _), (32, _), (31, _), (30, _), (29, _), (20, _), (19, _), (0, _), (2, _), (3, _)]) (.cons rfl (.cons rfl (.cons rfl (.cons rfl (.cons rfl (.cons rfl (.cons rfl (.cons rfl (.cons rfl (.cons rfl (.cons rfl .nil))))))))))) ?_)
            refine Fw.condT rfl ?_
            refine Fw.seq fun _ hK20 => ?_
            refine Fw.region ?_
            refine Fw.s (Fw.val_assign rfl) rfl ?_
            refine Fw.nil ?_
            refine hK20 _ _ (Fw.FC.sub (f' := [(8, _)]) (.cons rfl .nil) ?_)
            refine Fw.ret ?_
            refine Fw.X_blockR ?_
            refine Fw.X_ret ?_
            refine Fw.X_ret ?_
            refine Fw.X_blockR ?_
            refine Fw.X_ret ?_
            refine Fw.ret_ [.tmp 8] [_] Try.results36 (.tmp rfl .nil) ?_
            exact ⟨false, rfl, ⟨fun h => (Bool.noConfusion h), fun h => by have := h.2.2 k hk2; omega⟩, hw⟩
          · rintro hhi
            refine Fw.s (Fw.val_pickF rfl rfl) rfl ?_
            refine Fw.nil ?_
            refine hK16 _ _ (Fw.FC.sub (f' := [(34, _), (33, _), (32, _), (31, _), (30, _), (29, _), (20, _), (19, _), (0, _), (2, _), (3, _)]) (.cons rfl (.cons rfl (.cons rfl (.cons rfl (.cons rfl (.cons rfl (.cons rfl (.cons rfl (.cons rfl (.cons rfl (.cons rfl .nil))))))))))) ?_)
            refine Fw.condF rfl ?_
            refine Fw.skip ?_
            refine Fw.X_blockN ?_
            refine hK14 _ _ ?_
            refine Fw.region ?_
            refine Fw.s (Fw.val_bin rfl rfl (Fw.b_add (Fw.i64_ok (by omega)))) rfl ?_
            refine Fw.s (Fw.val_move rfl) rfl ?_
            refine Fw.nil ?_
            refine Fw.roundEnd _ _ (by omega) ⟨k + 1, rfl, by omega, (fun j hj => by rcases Nat.lt_succ_iff_lt_or_eq.1 hj with h | h; exact hok j h; subst h; omega), hw, rfl⟩ (.cons rfl (.cons rfl (.cons rfl (.cons rfl (.cons rfl .nil)))))
      · rintro hlt
        refine Fw.nil ?_
        refine hK11 _ _ ?_
        refine Fw.seq fun _ hK21 => ?_
        refine Fw.condF rfl ?_
        refine Fw.exit ?_
        refine Fw.X_exit ?_
        refine Fw.X_exit ?_
        refine Fw.X_block ?_
        refine hK8 _ _ ?_
        refine Fw.seq fun _ hK22 => ?_
        refine Fw.region ?_
        refine Fw.s (Fw.val_assign rfl) rfl ?_
        refine Fw.nil ?_
        refine hK22 _ _ ?_
        refine Fw.ret ?_
        refine Fw.ret_ [.tmp 8] [_] Try.results36 (.tmp rfl .nil) ?_
        exact ⟨true, rfl, ⟨fun _ => ⟨fun e => hE ((Tk.empty_iff rfl).2 e), by omega, fun j hj => hok j (by omega)⟩, fun _ => rfl⟩, hw⟩

set_option maxRecDepth 100000 in
set_option maxHeartbeats 1000000 in
theorem isPhrase_any (s : ByteArray) (n : Int) (hn : n ≤ 1000) (w : World) : Calls Try.prog 30 #[.string s, .int .i64 n] w fun e_ w' => ∃ b, e_ = .returned (.bool b) ∧ (b = true ↔ Tk.Phr s n) ∧ w = w' := by
  refine Fw.calls Try.func30 rfl Try.ntmps30 rfl ?_
  refine Fw.seq fun _ hK1 => ?_
  refine Fw.region ?_
  refine Fw.s (Fw.val_assign rfl) rfl ?_
  refine Fw.nil ?_
  refine hK1 _ _ ?_
  refine Fw.seq fun _ hK2 => ?_
  refine Fw.region ?_
  refine Fw.s (Fw.val_move rfl) rfl ?_
  refine Fw.s (Fw.val_move rfl) rfl ?_
  refine Fw.call cf36 rfl rfl (consists_any s n 32 126 hn _) ?_
  rintro e_ _ ⟨b7, rfl, h7, rfl⟩
  refine ⟨_, rfl, ?_⟩
  refine Fw.b2 ?_ ?_
  · rintro rfl
    refine Fw.s (Fw.val_move rfl) rfl ?_
    refine Fw.gT (d := 8) rfl rfl ?_
    refine Fw.s (Fw.val_move rfl) rfl ?_
    refine Fw.gT (d := 8) rfl rfl ?_
    refine Fw.s (Fw.val_indexS (j := 0) Try.underlying9 rfl rfl rfl (by have := (h7.1 rfl).1; omega)) rfl ?_
    refine Fw.gT (d := 8) rfl rfl ?_
    refine Fw.s2 (Fw.val_bin rfl rfl Fw.b_neq) rfl ?_ ?_
    · rintro ha
      refine Fw.s (Fw.val_pickT rfl rfl) rfl ?_
      refine Fw.s (Fw.val_move rfl) rfl ?_
      refine Fw.gT (d := 13) rfl rfl ?_
      refine Fw.s (Fw.val_move rfl) rfl ?_
      refine Fw.gT (d := 13) rfl rfl ?_
      refine Fw.s (Fw.val_move rfl) rfl ?_
      refine Fw.gT (d := 13) rfl rfl ?_
      refine Fw.s (Fw.val_lenS Try.underlying9 rfl) rfl ?_
      refine Fw.gT (d := 13) rfl rfl ?_
      refine Fw.s (Fw.val_bin rfl rfl (Fw.b_sub (Fw.i64_ok (by have := (h7.1 rfl).2.1; omega)))) rfl ?_
      refine Fw.gT (d := 13) rfl rfl ?_
      refine Fw.s (Fw.val_indexS Try.underlying9 rfl rfl (by have := (h7.1 rfl).1; omega : (s.size : Int) - 1 = ((s.size - 1 : Nat) : Int)) (by have := (h7.1 rfl).1; omega)) rfl ?_
      refine Fw.gT (d := 13) rfl rfl ?_
      refine Fw.s2 (Fw.val_bin rfl rfl Fw.b_neq) rfl ?_ ?_
      · rintro hz
        refine Fw.s (Fw.val_pickT rfl rfl) rfl ?_
        refine Fw.s (Fw.val_assign rfl) rfl ?_
        refine Fw.nil ?_
        refine hK2 _ _ (Fw.FC.sub (f' := [(4, _)]) (.cons rfl .nil) ?_)
        refine Fw.ret ?_
        refine Fw.ret_ [.tmp 4] [_] Try.results30 (.tmp rfl .nil) ?_
        exact ⟨true, rfl, ⟨fun _ => ⟨h7.1 rfl, ha, hz⟩, fun _ => rfl⟩, rfl⟩
      · rintro hz
        refine Fw.s (Fw.val_pickT rfl rfl) rfl ?_
        refine Fw.s (Fw.val_assign rfl) rfl ?_
        refine Fw.nil ?_
        refine hK2 _ _ (Fw.FC.sub (f' := [(4, _)]) (.cons rfl .nil) ?_)
        refine Fw.ret ?_
        refine Fw.ret_ [.tmp 4] [_] Try.results30 (.tmp rfl .nil) ?_
        exact ⟨false, rfl, ⟨fun h => Bool.noConfusion h, fun h => absurd h.2.2 hz⟩, rfl⟩
    · rintro ha
      refine Fw.s (Fw.val_pickT rfl rfl) rfl ?_
      refine Fw.s (Fw.val_move rfl) rfl ?_
      refine Fw.gF (d := 13) rfl rfl rfl rfl ?_
      refine Fw.gF (d := 13) rfl rfl rfl rfl ?_
      refine Fw.gF (d := 13) rfl rfl rfl rfl ?_
      refine Fw.gF (d := 13) rfl rfl rfl rfl ?_
      refine Fw.gF (d := 13) rfl rfl rfl rfl ?_
      refine Fw.gF (d := 13) rfl rfl rfl rfl ?_
      refine Fw.s (Fw.val_pickF rfl rfl) rfl ?_
      refine Fw.s (Fw.val_assign rfl) rfl ?_
      refine Fw.nil ?_
      refine hK2 _ _ (Fw.FC.sub (f' := [(4, _)]) (.cons rfl .nil) ?_)
      refine Fw.ret ?_
      refine Fw.ret_ [.tmp 4] [_] Try.results30 (.tmp rfl .nil) ?_
      exact ⟨false, rfl, ⟨fun h => Bool.noConfusion h, fun h => absurd h.2.1 ha⟩, rfl⟩
  · rintro rfl
    refine Fw.s (Fw.val_move rfl) rfl ?_
    refine Fw.gF (d := 8) rfl rfl rfl rfl ?_
    refine Fw.gF (d := 8) rfl rfl rfl rfl ?_
    refine Fw.gF (d := 8) rfl rfl rfl rfl ?_
    refine Fw.s (Fw.val_pickF rfl rfl) rfl ?_
    refine Fw.s (Fw.val_move rfl) rfl ?_
    refine Fw.gF (d := 13) rfl rfl rfl rfl ?_
    refine Fw.gF (d := 13) rfl rfl rfl rfl ?_
    refine Fw.gF (d := 13) rfl rfl rfl rfl ?_
    refine Fw.gF (d := 13) rfl rfl rfl rfl ?_
    refine Fw.gF (d := 13) rfl rfl rfl rfl ?_
    refine Fw.gF (d := 13) rfl rfl rfl rfl ?_
    refine Fw.s (Fw.val_pickF rfl rfl) rfl ?_
    refine Fw.s (Fw.val_assign rfl) rfl ?_
    refine Fw.nil ?_
    refine hK2 _ _ (Fw.FC.sub (f' := [(4, _)]) (.cons rfl .nil) ?_)
    refine Fw.ret ?_
    refine Fw.ret_ [.tmp 4] [_] Try.results30 (.tmp rfl .nil) ?_
    exact ⟨false, rfl, ⟨fun h => Bool.noConfusion h, fun h => h7.2 h.1⟩, rfl⟩

set_option maxRecDepth 100000 in
set_option maxHeartbeats 1000000 in
theorem isCode_any (s : ByteArray) (w : World) : Calls Try.prog 38 #[.string s] w fun e_ w' => ∃ b, e_ = .returned (.bool b) ∧ (b = true ↔ Tk.Cod s) ∧ w = w' := by
  refine Fw.calls Try.func38 rfl Try.ntmps38 rfl ?_
  refine Fw.seq fun _ hK1 => ?_
  refine Fw.region ?_
  refine Fw.s (Fw.val_assign rfl) rfl ?_
  refine Fw.nil ?_
  refine hK1 _ _ ?_
  refine Fw.seq fun _ hK2 => ?_
  refine Fw.region ?_
  refine Fw.s (Fw.val_move rfl) rfl ?_
  refine Fw.call cf36 rfl rfl (consists_any s 40 33 126 (by decide) _) ?_
  rintro e_ _ ⟨b4, rfl, h4, rfl⟩
  refine ⟨_, rfl, ?_⟩
  refine Fw.s (Fw.val_assign rfl) rfl ?_
  refine Fw.nil ?_
  refine hK2 _ _ ?_
  refine Fw.ret ?_
  refine Fw.ret_ [.tmp 2] [_] Try.results38 (.tmp rfl .nil) ?_
  exact ⟨b4, rfl, h4, rfl⟩

set_option maxRecDepth 100000 in
set_option maxHeartbeats 1000000 in
theorem isName_any (s : ByteArray) (w : World) : Calls Try.prog 18 #[.string s] w fun e_ w' => ∃ b, e_ = .returned (.bool b) ∧ (b = true ↔ Tk.Nam s) ∧ w = w' := by
  refine Fw.calls Try.func18 rfl Try.ntmps18 rfl ?_
  refine Fw.seq fun _ hK1 => ?_
  refine Fw.region ?_
  refine Fw.s (Fw.val_assign rfl) rfl ?_
  refine Fw.nil ?_
  refine hK1 _ _ ?_
  refine Fw.seq fun _ hK2 => ?_
  refine Fw.seq fun _ hK3 => ?_
  refine Fw.region ?_
  refine Fw.s (Fw.val_move rfl) rfl ?_
  refine Fw.s2 (Fw.val_bin rfl rfl Fw.b_eqlS) rfl ?_ ?_
  · rintro hE
    refine Fw.s (Fw.val_move rfl) rfl ?_
    refine Fw.gF (d := 7) rfl rfl rfl rfl ?_
    refine Fw.gF (d := 7) rfl rfl rfl rfl ?_
    refine Fw.gF (d := 7) rfl rfl rfl rfl ?_
    refine Fw.s (Fw.val_pickT rfl rfl) rfl ?_
    refine Fw.nil ?_
    refine hK3 _ _ (Fw.FC.sub (f' := [(11, _), (0, _)]) (.cons rfl (.cons rfl .nil)) ?_)
    refine Fw.condT rfl ?_
    refine Fw.seq fun _ hK5 => ?_
    refine Fw.region ?_
    refine Fw.s (Fw.val_assign rfl) rfl ?_
    refine Fw.nil ?_
    refine hK5 _ _ ?_
    refine Fw.ret ?_
    refine Fw.X_ret ?_
    refine Fw.ret_ [.tmp 2] [_] Try.results18 (.tmp rfl .nil) ?_
    exact ⟨false, rfl, ⟨fun h => (Bool.noConfusion h), fun h => absurd ((Tk.empty_iff rfl).1 hE) h.1⟩, rfl⟩
  · rintro hE
    refine Fw.s (Fw.val_move rfl) rfl ?_
    refine Fw.gT (d := 7) rfl rfl ?_
    refine Fw.s (Fw.val_move rfl) rfl ?_
    refine Fw.gT (d := 7) rfl rfl ?_
    refine Fw.s (Fw.val_lenS Try.underlying9 rfl) rfl ?_
    refine Fw.gT (d := 7) rfl rfl ?_
    refine Fw.s2 (Fw.val_bin rfl rfl Fw.b_gtr) rfl ?_ ?_
    · rintro hN
      refine Fw.s (Fw.val_pickF rfl rfl) rfl ?_
      refine Fw.nil ?_
      refine hK3 _ _ (Fw.FC.sub (f' := [(11, _), (0, _)]) (.cons rfl (.cons rfl .nil)) ?_)
      refine Fw.condT rfl ?_
      refine Fw.seq fun _ hK7 => ?_
      refine Fw.region ?_
      refine Fw.s (Fw.val_assign rfl) rfl ?_
      refine Fw.nil ?_
      refine hK7 _ _ ?_
      refine Fw.ret ?_
      refine Fw.X_ret ?_
      refine Fw.ret_ [.tmp 2] [_] Try.results18 (.tmp rfl .nil) ?_
      exact ⟨false, rfl, ⟨fun h => (Bool.noConfusion h), fun h => by have := h.2.1; omega⟩, rfl⟩
    · rintro hN
      refine Fw.s (Fw.val_pickF rfl rfl) rfl ?_
      refine Fw.nil ?_
      refine hK3 _ _ (Fw.FC.sub (f' := [(11, _), (0, _)]) (.cons rfl (.cons rfl .nil)) ?_)
      refine Fw.condF rfl ?_
      refine Fw.skip ?_
      refine hK2 _ _ ?_
      refine Fw.seq fun _ hK8 => ?_
      refine Fw.seq fun _ hK9 => ?_
      refine Fw.region ?_
      refine Fw.s (Fw.val_move rfl) rfl ?_
      refine Fw.s (Fw.val_lenS Try.underlying9 rfl) rfl ?_
      refine Fw.s (Fw.val_move rfl) rfl ?_
      refine Fw.nil ?_
      refine hK9 _ _ ?_
      refine Fw.block ?_
      refine Fw.loop (fun m_ f_ W_ => ∃ (k : Nat), m_ = s.size - k ∧ k ≤ s.size ∧ (∀ j : Nat, j < k → Tk.nmc (Tk.byt s j)) ∧ w = W_ ∧ f_ = [(14, .int .i64 k), (13, .int .i64 s.size), (0, .string s)]) ⟨_, _, ⟨0, rfl, Nat.zero_le _, (fun j hj => by omega), rfl, rfl⟩, (.cons rfl (.cons rfl (.cons rfl .nil)))⟩ ?_
      rintro m10_ _ w1 ⟨k, hm10_, hk, hok, hw, rfl⟩
      refine Fw.seq fun _ hK11 => ?_
      refine Fw.region ?_
      refine Fw.s2 (Fw.val_bin rfl rfl Fw.b_lss) rfl ?_ ?_
      · rintro hlt
        refine Fw.nil ?_
        refine hK11 _ _ ?_
        refine Fw.seq fun _ hK13 => ?_
        refine Fw.condT rfl ?_
        refine Fw.skip ?_
        refine hK13 _ _ ?_
        refine Fw.seq fun _ hK14 => ?_
        refine Fw.block ?_
        refine Fw.seq fun _ hK15 => ?_
        have hk2 : k < s.size := by omega
        refine Fw.region ?_
        refine Fw.s (Fw.val_move rfl) rfl ?_
        refine Fw.s (Fw.val_assign rfl) rfl ?_
        refine Fw.nil ?_
        refine hK15 _ _ ?_
        refine Fw.seq fun _ hK16 => ?_
        refine Fw.region ?_
        refine Fw.s (Fw.val_move rfl) rfl ?_
        refine Fw.s (Fw.val_move rfl) rfl ?_
        refine Fw.s (Fw.val_indexS Try.underlying9 rfl rfl rfl (by omega)) rfl ?_
        refine Fw.s (Fw.val_assign rfl) rfl ?_
        refine Fw.nil ?_
        refine hK16 _ _ ?_
        refine Fw.seq fun _ hK17 => ?_
        refine Fw.region ?_
        refine Fw.s (Fw.val_move rfl) rfl ?_
        refine Fw.s2 (Fw.val_bin rfl rfl Fw.b_lss) rfl ?_ ?_
        · rintro h97
          refine Fw.s (Fw.val_move rfl) rfl ?_
          refine Fw.gF (d := 22) rfl rfl rfl rfl ?_
          refine Fw.gF (d := 22) rfl rfl rfl rfl ?_
          refine Fw.s (Fw.val_pickT rfl rfl) rfl ?_
          refine Fw.s (Fw.val_move rfl) rfl ?_
          refine Fw.gT (d := 26) rfl rfl ?_
          refine Fw.s (Fw.val_move rfl) rfl ?_
          refine Fw.gT (d := 26) rfl rfl ?_
          refine Fw.s2 (Fw.val_bin rfl rfl Fw.b_lss) rfl ?_ ?_
          · rintro h48
            refine Fw.gT (d := 26) rfl rfl ?_
            refine Fw.s (Fw.val_move rfl) rfl ?_
            refine Fw.gF (d := 29) rfl rfl rfl rfl ?_
            refine Fw.gF (d := 29) rfl rfl rfl rfl ?_
            refine Fw.gT (d := 26) rfl rfl ?_
            refine Fw.s (Fw.val_pickT rfl rfl) rfl ?_
            refine Fw.s (Fw.val_pickT rfl rfl) rfl ?_
            refine Fw.s (Fw.val_move rfl) rfl ?_
            refine Fw.gT (d := 34) rfl rfl ?_
            refine Fw.s (Fw.val_move rfl) rfl ?_
            refine Fw.gT (d := 34) rfl rfl ?_
            refine Fw.s2 (Fw.val_bin rfl rfl Fw.b_neq) rfl ?_ ?_
            · rintro h45
              refine Fw.s (Fw.val_pickT rfl rfl) rfl ?_
              refine Fw.nil ?_
              refine hK17 _ _ (Fw.FC.sub (f' := [(37, _), (36, _), (35, _), (32, _), (31, _), (30, _), (29, _), (28, _), (27, _), (24, _), (23, _), (14, _), (13, _), (0, _)]) (.cons rfl (.cons rfl (.cons rfl (.cons rfl (.cons rfl (.cons rfl (.cons rfl (.cons rfl (.cons rfl (.cons rfl (.cons rfl (.cons rfl (.cons rfl (.cons rfl .nil)))))))))))))) ?_)
              refine Fw.condT rfl ?_
              refine Fw.seq fun _ hK21 => ?_
              refine Fw.region ?_
              refine Fw.s (Fw.val_assign rfl) rfl ?_
              refine Fw.nil ?_
              refine hK21 _ _ (Fw.FC.sub (f' := [(2, _)]) (.cons rfl .nil) ?_)
              refine Fw.ret ?_
              refine Fw.X_blockR ?_
              refine Fw.X_ret ?_
              refine Fw.X_ret ?_
              refine Fw.X_blockR ?_
              refine Fw.X_ret ?_
              refine Fw.ret_ [.tmp 2] [_] Try.results18 (.tmp rfl .nil) ?_
              exact ⟨false, rfl, ⟨fun h => (Bool.noConfusion h), fun h => by have := h.2.2 k hk2; unfold Tk.nmc at this; omega⟩, hw⟩
            · rintro h45
              refine Fw.s (Fw.val_pickT rfl rfl) rfl ?_
              refine Fw.nil ?_
              refine hK17 _ _ (Fw.FC.sub (f' := [(37, _), (36, _), (35, _), (32, _), (31, _), (30, _), (29, _), (28, _), (27, _), (24, _), (23, _), (14, _), (13, _), (0, _)]) (.cons rfl (.cons rfl (.cons rfl (.cons rfl (.cons rfl (.cons rfl (.cons rfl (.cons rfl (.cons rfl (.cons rfl (.cons rfl (.cons rfl (.cons rfl (.cons rfl .nil)))))))))))))) ?_)
              refine Fw.condF rfl ?_
              refine Fw.skip ?_
              refine Fw.X_blockN ?_
              refine hK14 _ _ ?_
              refine Fw.region ?_
              refine Fw.s (Fw.val_bin rfl rfl (Fw.b_add (Fw.i64_ok (by omega)))) rfl ?_
              refine Fw.s (Fw.val_move rfl) rfl ?_
              refine Fw.nil ?_
              refine Fw.roundEnd _ _ (by omega) ⟨k + 1, rfl, by omega, (fun j hj => by rcases Nat.lt_succ_iff_lt_or_eq.1 hj with h | h; exact hok j h; subst h; unfold Tk.nmc; omega), hw, rfl⟩ (.cons rfl (.cons rfl (.cons rfl .nil)))
          · rintro h48
            refine Fw.gT (d := 26) rfl rfl ?_
            refine Fw.s (Fw.val_move rfl) rfl ?_
            refine Fw.gT (d := 29) rfl rfl ?_
            refine Fw.s (Fw.val_move rfl) rfl ?_
            refine Fw.gT (d := 29) rfl rfl ?_
            refine Fw.s2 (Fw.val_bin rfl rfl Fw.b_gtr) rfl ?_ ?_
            · rintro h57
              refine Fw.gT (d := 26) rfl rfl ?_
              refine Fw.s (Fw.val_pickF rfl rfl) rfl ?_
              refine Fw.s (Fw.val_pickT rfl rfl) rfl ?_
              refine Fw.s (Fw.val_move rfl) rfl ?_
              refine Fw.gT (d := 34) rfl rfl ?_
              refine Fw.s (Fw.val_move rfl) rfl ?_
              refine Fw.gT (d := 34) rfl rfl ?_
              refine Fw.s2 (Fw.val_bin rfl rfl Fw.b_neq) rfl ?_ ?_
              · rintro h45
                refine Fw.s (Fw.val_pickT rfl rfl) rfl ?_
                refine Fw.nil ?_
                refine hK17 _ _ (Fw.FC.sub (f' := [(37, _), (36, _), (35, _), (32, _), (31, _), (30, _), (29, _), (28, _), (27, _), (24, _), (23, _), (14, _), (13, _), (0, _)]) (.cons rfl (.cons rfl (.cons rfl (.cons rfl (.cons rfl (.cons rfl (.cons rfl (.cons rfl (.cons rfl (.cons rfl (.cons rfl (.cons rfl (.cons rfl (.cons rfl .nil)))))))))))))) ?_)
                refine Fw.condT rfl ?_
                refine Fw.seq fun _ hK24 => ?_
                refine Fw.region ?_
                refine Fw.s (Fw.val_assign rfl) rfl ?_
                refine Fw.nil ?_
                refine hK24 _ _ (Fw.FC.sub (f' := [(2, _)]) (.cons rfl .nil) ?_)
                refine Fw.ret ?_
                refine Fw.X_blockR ?_
                refine Fw.X_ret ?_
                refine Fw.X_ret ?_
                refine Fw.X_blockR ?_
                refine Fw.X_ret ?_
                refine Fw.ret_ [.tmp 2] [_] Try.results18 (.tmp rfl .nil) ?_
                exact ⟨false, rfl, ⟨fun h => (Bool.noConfusion h), fun h => by have := h.2.2 k hk2; unfold Tk.nmc at this; omega⟩, hw⟩
              · rintro h45
                refine Fw.s (Fw.val_pickT rfl rfl) rfl ?_
                refine Fw.nil ?_
                refine hK17 _ _ (Fw.FC.sub (f' := [(37, _), (36, _), (35, _), (32, _), (31, _), (30, _), (29, _), (28, _), (27, _), (24, _), (23, _), (14, _), (13, _), (0, _)]) (.cons rfl (.cons rfl (.cons rfl (.cons rfl (.cons rfl (.cons rfl (.cons rfl (.cons rfl (.cons rfl (.cons rfl (.cons rfl (.cons rfl (.cons rfl (.cons rfl .nil)))))))))))))) ?_)
                refine Fw.condF rfl ?_
                refine Fw.skip ?_
                refine Fw.X_blockN ?_
                refine hK14 _ _ ?_
                refine Fw.region ?_
                refine Fw.s (Fw.val_bin rfl rfl (Fw.b_add (Fw.i64_ok (by omega)))) rfl ?_
                refine Fw.s (Fw.val_move rfl) rfl ?_
                refine Fw.nil ?_
                refine Fw.roundEnd _ _ (by omega) ⟨k + 1, rfl, by omega, (fun j hj => by rcases Nat.lt_succ_iff_lt_or_eq.1 hj with h | h; exact hok j h; subst h; unfold Tk.nmc; omega), hw, rfl⟩ (.cons rfl (.cons rfl (.cons rfl .nil)))
            · rintro h57
              refine Fw.gT (d := 26) rfl rfl ?_
              refine Fw.s (Fw.val_pickF rfl rfl) rfl ?_
              refine Fw.s (Fw.val_pickT rfl rfl) rfl ?_
              refine Fw.s (Fw.val_move rfl) rfl ?_
              refine Fw.gF (d := 34) rfl rfl rfl rfl ?_
              refine Fw.gF (d := 34) rfl rfl rfl rfl ?_
              refine Fw.s (Fw.val_pickF rfl rfl) rfl ?_
              refine Fw.nil ?_
              refine hK17 _ _ (Fw.FC.sub (f' := [(37, _), (36, _), (35, _), (32, _), (31, _), (30, _), (29, _), (28, _), (27, _), (24, _), (23, _), (14, _), (13, _), (0, _)]) (.cons rfl (.cons rfl (.cons rfl (.cons rfl (.cons rfl (.cons rfl (.cons rfl (.cons rfl (.cons rfl (.cons rfl (.cons rfl (.cons rfl (.cons rfl (.cons rfl .nil)))))))))))))) ?_)
              refine Fw.condF rfl ?_
              refine Fw.skip ?_
              refine Fw.X_blockN ?_
              refine hK14 _ _ ?_
              refine Fw.region ?_
              refine Fw.s (Fw.val_bin rfl rfl (Fw.b_add (Fw.i64_ok (by omega)))) rfl ?_
              refine Fw.s (Fw.val_move rfl) rfl ?_
              refine Fw.nil ?_
              refine Fw.roundEnd _ _ (by omega) ⟨k + 1, rfl, by omega, (fun j hj => by rcases Nat.lt_succ_iff_lt_or_eq.1 hj with h | h; exact hok j h; subst h; unfold Tk.nmc; omega), hw, rfl⟩ (.cons rfl (.cons rfl (.cons rfl .nil)))
        · rintro h97
          refine Fw.s (Fw.val_move rfl) rfl ?_
          refine Fw.gT (d := 22) rfl rfl ?_
          refine Fw.s (Fw.val_move rfl) rfl ?_
          refine Fw.gT (d := 22) rfl rfl ?_
          refine Fw.s2 (Fw.val_bin rfl rfl Fw.b_gtr) rfl ?_ ?_
          · rintro h122
            refine Fw.s (Fw.val_pickF rfl rfl) rfl ?_
            refine Fw.s (Fw.val_move rfl) rfl ?_
            refine Fw.gT (d := 26) rfl rfl ?_
            refine Fw.s (Fw.val_move rfl) rfl ?_
            refine Fw.gT (d := 26) rfl rfl ?_
            refine Fw.s2 (Fw.val_bin rfl rfl Fw.b_lss) rfl ?_ ?_
            · rintro h48
              refine Fw.gT (d := 26) rfl rfl ?_
              refine Fw.s (Fw.val_move rfl) rfl ?_
              refine Fw.gF (d := 29) rfl rfl rfl rfl ?_
              refine Fw.gF (d := 29) rfl rfl rfl rfl ?_
              refine Fw.gT (d := 26) rfl rfl ?_
              refine Fw.s (Fw.val_pickT rfl rfl) rfl ?_
              refine Fw.s (Fw.val_pickT rfl rfl) rfl ?_
              refine Fw.s (Fw.val_move rfl) rfl ?_
              refine Fw.gT (d := 34) rfl rfl ?_
              refine Fw.s (Fw.val_move rfl) rfl ?_
              refine Fw.gT (d := 34) rfl rfl ?_
              refine Fw.s2 (Fw.val_bin rfl rfl Fw.b_neq) rfl ?_ ?_
              · rintro h45
                refine Fw.s (Fw.val_pickT rfl rfl) rfl ?_
                refine Fw.nil ?_
                refine hK17 _ _ (Fw.FC.sub (f' := [(37, _), (36, _), (35, _), (32, _), (31, _), (30, _), (29, _), (28, _), (27, _), (24, _), (23, _), (14, _), (13, _), (0, _)]) (.cons rfl (.cons rfl (.cons rfl (.cons rfl (.cons rfl (.cons rfl (.cons rfl (.cons rfl (.cons rfl (.cons rfl (.cons rfl (.cons rfl (.cons rfl (.cons rfl .nil)))))))))))))) ?_)
                refine Fw.condT rfl ?_
                refine Fw.seq fun _ hK28 => ?_
                refine Fw.region ?_
                refine Fw.s (Fw.val_assign rfl) rfl ?_
                refine Fw.nil ?_
                refine hK28 _ _ (Fw.FC.sub (f' := [(2, _)]) (.cons rfl .nil) ?_)
                refine Fw.ret ?_
                refine Fw.X_blockR ?_
                refine Fw.X_ret ?_
                refine Fw.X_ret ?_
                refine Fw.X_blockR ?_
                refine Fw.X_ret ?_
                refine Fw.ret_ [.tmp 2] [_] Try.results18 (.tmp rfl .nil) ?_
                exact ⟨false, rfl, ⟨fun h => (Bool.noConfusion h), fun h => by have := h.2.2 k hk2; unfold Tk.nmc at this; omega⟩, hw⟩
              · rintro h45
                refine Fw.s (Fw.val_pickT rfl rfl) rfl ?_
                refine Fw.nil ?_
                refine hK17 _ _ (Fw.FC.sub (f' := [(37, _), (36, _), (35, _), (32, _), (31, _), (30, _), (29, _), (28, _), (27, _), (24, _), (23, _), (14, _), (13, _), (0, _)]) (.cons rfl (.cons rfl (.cons rfl (.cons rfl (.cons rfl (.cons rfl (.cons rfl (.cons rfl (.cons rfl (.cons rfl (.cons rfl (.cons rfl (.cons rfl (.cons rfl .nil)))))))))))))) ?_)
                refine Fw.condF rfl ?_
                refine Fw.skip ?_
                refine Fw.X_blockN ?_
                refine hK14 _ _ ?_
                refine Fw.region ?_
                refine Fw.s (Fw.val_bin rfl rfl (Fw.b_add (Fw.i64_ok (by omega)))) rfl ?_
                refine Fw.s (Fw.val_move rfl) rfl ?_
                refine Fw.nil ?_
                refine Fw.roundEnd _ _ (by omega) ⟨k + 1, rfl, by omega, (fun j hj => by rcases Nat.lt_succ_iff_lt_or_eq.1 hj with h | h; exact hok j h; subst h; unfold Tk.nmc; omega), hw, rfl⟩ (.cons rfl (.cons rfl (.cons rfl .nil)))
            · rintro h48
              refine Fw.gT (d := 26) rfl rfl ?_
              refine Fw.s (Fw.val_move rfl) rfl ?_
              refine Fw.gT (d := 29) rfl rfl ?_
              refine Fw.s (Fw.val_move rfl) rfl ?_
              refine Fw.gT (d := 29) rfl rfl ?_
              refine Fw.s2 (Fw.val_bin rfl rfl Fw.b_gtr) rfl ?_ ?_
              · rintro h57
                refine Fw.gT (d := 26) rfl rfl ?_
                refine Fw.s (Fw.val_pickF rfl rfl) rfl ?_
                refine Fw.s (Fw.val_pickT rfl rfl) rfl ?_
                refine Fw.s (Fw.val_move rfl) rfl ?_
                refine Fw.gT (d := 34) rfl rfl ?_
                refine Fw.s (Fw.val_move rfl) rfl ?_
                refine Fw.gT (d := 34) rfl rfl ?_
                refine Fw.s2 (Fw.val_bin rfl rfl Fw.b_neq) rfl ?_ ?_
                · rintro h45
                  refine Fw.s (Fw.val_pickT rfl rfl) rfl ?_
                  refine Fw.nil ?_
                  refine hK17 _ _ (Fw.FC.sub (f' := [(37, _), (36, _), (35, _), (32, _), (31, _), (30, _), (29, _), (28, _), (27, _), (24, _), (23, _), (14, _), (13, _), (0, _)]) (.cons rfl (.cons rfl (.cons rfl (.cons rfl (.cons rfl (.cons rfl (.cons rfl (.cons rfl (.cons rfl (.cons rfl (.cons rfl (.cons rfl (.cons rfl (.cons rfl .nil)))))))))))))) ?_)
                  refine Fw.condT rfl ?_
                  refine Fw.seq fun _ hK31 => ?_
                  refine Fw.region ?_
                  refine Fw.s (Fw.val_assign rfl) rfl ?_
                  refine Fw.nil ?_
                  refine hK31 _ _ (Fw.FC.sub (f' := [(2, _)]) (.cons rfl .nil) ?_)
                  refine Fw.ret ?_
                  refine Fw.X_blockR ?_
                  refine Fw.X_ret ?_
                  refine Fw.X_ret ?_
                  refine Fw.X_blockR ?_
                  refine Fw.X_ret ?_
                  refine Fw.ret_ [.tmp 2] [_] Try.results18 (.tmp rfl .nil) ?_
                  exact ⟨false, rfl, ⟨fun h => (Bool.noConfusion h), fun h => by have := h.2.2 k hk2; unfold Tk.nmc at this; omega⟩, hw⟩
                · rintro h45
                  refine Fw.s (Fw.val_pickT rfl rfl) rfl ?_
                  refine Fw.nil ?_
                  refine hK17 _ _ (Fw.FC.sub (f' := [(37, _), (36, _), (35, _), (32, _), (31, _), (30, _), (29, _), (28, _), (27, _), (24, _), (23, _), (14, _), (13, _), (0, _)]) (.cons rfl (.cons rfl (.cons rfl (.cons rfl (.cons rfl (.cons rfl (.cons rfl (.cons rfl (.cons rfl (.cons rfl (.cons rfl (.cons rfl (.cons rfl (.cons rfl .nil)))))))))))))) ?_)
                  refine Fw.condF rfl ?_
                  refine Fw.skip ?_
                  refine Fw.X_blockN ?_
                  refine hK14 _ _ ?_
                  refine Fw.region ?_
                  refine Fw.s (Fw.val_bin rfl rfl (Fw.b_add (Fw.i64_ok (by omega)))) rfl ?_
                  refine Fw.s (Fw.val_move rfl) rfl ?_
                  refine Fw.nil ?_
                  refine Fw.roundEnd _ _ (by omega) ⟨k + 1, rfl, by omega, (fun j hj => by rcases Nat.lt_succ_iff_lt_or_eq.1 hj with h | h; exact hok j h; subst h; unfold Tk.nmc; omega), hw, rfl⟩ (.cons rfl (.cons rfl (.cons rfl .nil)))
              · rintro h57
                refine Fw.gT (d := 26) rfl rfl ?_
                refine Fw.s (Fw.val_pickF rfl rfl) rfl ?_
                refine Fw.s (Fw.val_pickT rfl rfl) rfl ?_
                refine Fw.s (Fw.val_move rfl) rfl ?_
                refine Fw.gF (d := 34) rfl rfl rfl rfl ?_
                refine Fw.gF (d := 34) rfl rfl rfl rfl ?_
                refine Fw.s (Fw.val_pickF rfl rfl) rfl ?_
                refine Fw.nil ?_
                refine hK17 _ _ (Fw.FC.sub (f' := [(37, _), (36, _), (35, _), (32, _), (31, _), (30, _), (29, _), (28, _), (27, _), (24, _), (23, _), (14, _), (13, _), (0, _)]) (.cons rfl (.cons rfl (.cons rfl (.cons rfl (.cons rfl (.cons rfl (.cons rfl (.cons rfl (.cons rfl (.cons rfl (.cons rfl (.cons rfl (.cons rfl (.cons rfl .nil)))))))))))))) ?_)
                refine Fw.condF rfl ?_
                refine Fw.skip ?_
                refine Fw.X_blockN ?_
                refine hK14 _ _ ?_
                refine Fw.region ?_
                refine Fw.s (Fw.val_bin rfl rfl (Fw.b_add (Fw.i64_ok (by omega)))) rfl ?_
                refine Fw.s (Fw.val_move rfl) rfl ?_
                refine Fw.nil ?_
                refine Fw.roundEnd _ _ (by omega) ⟨k + 1, rfl, by omega, (fun j hj => by rcases Nat.lt_succ_iff_lt_or_eq.1 hj with h | h; exact hok j h; subst h; unfold Tk.nmc; omega), hw, rfl⟩ (.cons rfl (.cons rfl (.cons rfl .nil)))
          · rintro h122
            refine Fw.s (Fw.val_pickF rfl rfl) rfl ?_
            refine Fw.s (Fw.val_move rfl) rfl ?_
            refine Fw.gF (d := 26) rfl rfl rfl rfl ?_
            refine Fw.gF (d := 26) rfl rfl rfl rfl ?_
            refine Fw.gF (d := 26) rfl rfl rfl rfl ?_
            refine Fw.gU (d := 29) rfl rfl rfl ?_
            refine Fw.gU (d := 29) rfl rfl rfl ?_
            refine Fw.gF (d := 26) rfl rfl rfl rfl ?_
            refine Fw.s (Fw.val_pickF rfl rfl) rfl ?_
            refine Fw.s (Fw.val_move rfl) rfl ?_
            refine Fw.gF (d := 34) rfl rfl rfl rfl ?_
            refine Fw.gF (d := 34) rfl rfl rfl rfl ?_
            refine Fw.s (Fw.val_pickF rfl rfl) rfl ?_
            refine Fw.nil ?_
            refine hK17 _ _ (Fw.FC.sub (f' := [(37, _), (36, _), (35, _), (32, _), (31, _), (30, _), (29, _), (28, _), (27, _), (24, _), (23, _), (14, _), (13, _), (0, _)]) (.cons rfl (.cons rfl (.cons rfl (.cons rfl (.cons rfl (.cons rfl (.cons rfl (.cons rfl (.cons rfl (.cons rfl (.cons rfl (.cons rfl (.cons rfl (.cons rfl .nil)))))))))))))) ?_)
            refine Fw.condF rfl ?_
            refine Fw.skip ?_
            refine Fw.X_blockN ?_
            refine hK14 _ _ ?_
            refine Fw.region ?_
            refine Fw.s (Fw.val_bin rfl rfl (Fw.b_add (Fw.i64_ok (by omega)))) rfl ?_
            refine Fw.s (Fw.val_move rfl) rfl ?_
            refine Fw.nil ?_
            refine Fw.roundEnd _ _ (by omega) ⟨k + 1, rfl, by omega, (fun j hj => by rcases Nat.lt_succ_iff_lt_or_eq.1 hj with h | h; exact hok j h; subst h; unfold Tk.nmc; omega), hw, rfl⟩ (.cons rfl (.cons rfl (.cons rfl .nil)))
      · rintro hlt
        refine Fw.nil ?_
        refine hK11 _ _ ?_
        refine Fw.seq fun _ hK32 => ?_
        refine Fw.condF rfl ?_
        refine Fw.exit ?_
        refine Fw.X_exit ?_
        refine Fw.X_exit ?_
        refine Fw.X_block ?_
        refine hK8 _ _ ?_
        refine Fw.seq fun _ hK33 => ?_
        refine Fw.region ?_
        refine Fw.s (Fw.val_assign rfl) rfl ?_
        refine Fw.nil ?_
        refine hK33 _ _ ?_
        refine Fw.ret ?_
        refine Fw.ret_ [.tmp 2] [_] Try.results18 (.tmp rfl .nil) ?_
        exact ⟨true, rfl, ⟨fun _ => ⟨fun e => hE ((Tk.empty_iff rfl).2 e), by omega, fun j hj => hok j (by omega)⟩, fun _ => rfl⟩, hw⟩

set_option maxRecDepth 100000 in
set_option maxHeartbeats 1000000 in
theorem isVersion_any (n : Int) (w : World) : Calls Try.prog 19 #[.int .i64 n] w fun e_ w' => ∃ b, e_ = .returned (.bool b) ∧ (b = true ↔ (1 ≤ n ∧ n ≤ 1048576)) ∧ w = w' := by
  refine Fw.calls Try.func19 rfl Try.ntmps19 rfl ?_
  refine Fw.seq fun _ hK1 => ?_
  refine Fw.region ?_
  refine Fw.s (Fw.val_assign rfl) rfl ?_
  refine Fw.nil ?_
  refine hK1 _ _ ?_
  refine Fw.seq fun _ hK2 => ?_
  refine Fw.region ?_
  refine Fw.s (Fw.val_move rfl) rfl ?_
  refine Fw.s2 (Fw.val_bin rfl rfl Fw.b_geq) rfl ?_ ?_
  · rintro h1
    refine Fw.s (Fw.val_move rfl) rfl ?_
    refine Fw.gT (d := 5) rfl rfl ?_
    refine Fw.s (Fw.val_move rfl) rfl ?_
    refine Fw.gT (d := 5) rfl rfl ?_
    refine Fw.s2 (Fw.val_bin rfl rfl Fw.b_leq) rfl ?_ ?_
    · rintro h2
      refine Fw.s (Fw.val_pickT rfl rfl) rfl ?_
      refine Fw.s (Fw.val_assign rfl) rfl ?_
      refine Fw.nil ?_
      refine hK2 _ _ (Fw.FC.sub (f' := [(2, _)]) (.cons rfl .nil) ?_)
      refine Fw.ret ?_
      refine Fw.ret_ [.tmp 2] [_] Try.results19 (.tmp rfl .nil) ?_
      exact ⟨true, rfl, ⟨fun _ => by omega, fun _ => rfl⟩, rfl⟩
    · rintro h2
      refine Fw.s (Fw.val_pickT rfl rfl) rfl ?_
      refine Fw.s (Fw.val_assign rfl) rfl ?_
      refine Fw.nil ?_
      refine hK2 _ _ (Fw.FC.sub (f' := [(2, _)]) (.cons rfl .nil) ?_)
      refine Fw.ret ?_
      refine Fw.ret_ [.tmp 2] [_] Try.results19 (.tmp rfl .nil) ?_
      exact ⟨false, rfl, ⟨fun h => Bool.noConfusion h, fun h => by omega⟩, rfl⟩
  · rintro h1
    refine Fw.s (Fw.val_move rfl) rfl ?_
    refine Fw.gF (d := 5) rfl rfl rfl rfl ?_
    refine Fw.gF (d := 5) rfl rfl rfl rfl ?_
    refine Fw.s (Fw.val_pickF rfl rfl) rfl ?_
    refine Fw.s (Fw.val_assign rfl) rfl ?_
    refine Fw.nil ?_
    refine hK2 _ _ (Fw.FC.sub (f' := [(2, _)]) (.cons rfl .nil) ?_)
    refine Fw.ret ?_
    refine Fw.ret_ [.tmp 2] [_] Try.results19 (.tmp rfl .nil) ?_
    exact ⟨false, rfl, ⟨fun h => Bool.noConfusion h, fun h => by omega⟩, rfl⟩

set_option maxRecDepth 100000 in
set_option maxHeartbeats 1000000 in
theorem isUrgency_any (n : Int) (w : World) : Calls Try.prog 37 #[.int .i64 n] w fun e_ w' => ∃ b, e_ = .returned (.bool b) ∧ (b = true ↔ (1 ≤ n ∧ n ≤ 5)) ∧ w = w' := by
  refine Fw.calls Try.func37 rfl Try.ntmps37 rfl ?_
  refine Fw.seq fun _ hK1 => ?_
  refine Fw.region ?_
  refine Fw.s (Fw.val_assign rfl) rfl ?_
  refine Fw.nil ?_
  refine hK1 _ _ ?_
  refine Fw.seq fun _ hK2 => ?_
  refine Fw.region ?_
  refine Fw.s (Fw.val_move rfl) rfl ?_
  refine Fw.s2 (Fw.val_bin rfl rfl Fw.b_geq) rfl ?_ ?_
  · rintro h1
    refine Fw.s (Fw.val_move rfl) rfl ?_
    refine Fw.gT (d := 5) rfl rfl ?_
    refine Fw.s (Fw.val_move rfl) rfl ?_
    refine Fw.gT (d := 5) rfl rfl ?_
    refine Fw.s2 (Fw.val_bin rfl rfl Fw.b_leq) rfl ?_ ?_
    · rintro h2
      refine Fw.s (Fw.val_pickT rfl rfl) rfl ?_
      refine Fw.s (Fw.val_assign rfl) rfl ?_
      refine Fw.nil ?_
      refine hK2 _ _ (Fw.FC.sub (f' := [(2, _)]) (.cons rfl .nil) ?_)
      refine Fw.ret ?_
      refine Fw.ret_ [.tmp 2] [_] Try.results37 (.tmp rfl .nil) ?_
      exact ⟨true, rfl, ⟨fun _ => by omega, fun _ => rfl⟩, rfl⟩
    · rintro h2
      refine Fw.s (Fw.val_pickT rfl rfl) rfl ?_
      refine Fw.s (Fw.val_assign rfl) rfl ?_
      refine Fw.nil ?_
      refine hK2 _ _ (Fw.FC.sub (f' := [(2, _)]) (.cons rfl .nil) ?_)
      refine Fw.ret ?_
      refine Fw.ret_ [.tmp 2] [_] Try.results37 (.tmp rfl .nil) ?_
      exact ⟨false, rfl, ⟨fun h => Bool.noConfusion h, fun h => by omega⟩, rfl⟩
  · rintro h1
    refine Fw.s (Fw.val_move rfl) rfl ?_
    refine Fw.gF (d := 5) rfl rfl rfl rfl ?_
    refine Fw.gF (d := 5) rfl rfl rfl rfl ?_
    refine Fw.s (Fw.val_pickF rfl rfl) rfl ?_
    refine Fw.s (Fw.val_assign rfl) rfl ?_
    refine Fw.nil ?_
    refine hK2 _ _ (Fw.FC.sub (f' := [(2, _)]) (.cons rfl .nil) ?_)
    refine Fw.ret ?_
    refine Fw.ret_ [.tmp 2] [_] Try.results37 (.tmp rfl .nil) ?_
    exact ⟨false, rfl, ⟨fun h => Bool.noConfusion h, fun h => by omega⟩, rfl⟩

set_option maxRecDepth 100000 in
set_option maxHeartbeats 1000000 in
theorem validAnswer_any (a : Tk.An) (N : Nat) (w : World) : Calls Try.prog 31 #[.agg #[.string a.text, .int .i64 a.next, .int .i64 a.urg, .string a.code], .int .i64 (N : Int)] w fun e_ w' => ∃ b, e_ = .returned (.bool b) ∧ (b = true ↔ Tk.VA N a) ∧ Below w.heap.size w w' := by
  refine Fw.calls Try.func31 rfl Try.ntmps31 rfl ?_
  have HB := Below.refl (w.heap.size) w
  refine Fw.seq fun _ hK1 => ?_
  refine Fw.region ?_
  refine Fw.box rfl rfl ?_
  intro w1 ga ega Ha hb
  have lga : w.heap.size ≤ ga := by have := HB.size; omega
  replace HB := HB.trans (hb.mono HB.size)
  clear hb
  clear ega
  refine Fw.s (Fw.val_assign rfl) rfl ?_
  refine Fw.nil ?_
  refine hK1 _ _ ?_
  refine Fw.seq fun _ hK2 => ?_
  refine Fw.seq fun _ hK3 => ?_
  refine Fw.region ?_
  refine Fw.s (Fw.val_fieldAddr fl68_0 rfl rfl) rfl ?_
  refine Fw.ld sc9 rfl (Ha.cell 0) rfl ?_
  refine Fw.call cf30 rfl rfl (isPhrase_any a.text 100 (by decide) _) ?_
  rintro e_ _ ⟨b7, rfl, h7, rfl⟩
  refine ⟨_, rfl, ?_⟩
  refine Fw.b2 ?_ ?_
  · rintro rfl
    refine Fw.s (Fw.val_not rfl) rfl ?_
    refine Fw.nil ?_
    refine hK3 _ _ ?_
    refine Fw.condF rfl ?_
    refine Fw.skip ?_
    refine hK2 _ _ (Fw.FC.sub (f' := [(2, _), (1, _)]) (.cons rfl (.cons rfl .nil)) ?_)
    refine Fw.seq fun _ hK4 => ?_
    refine Fw.seq fun _ hK5 => ?_
    refine Fw.region ?_
    refine Fw.s (Fw.val_fieldAddr fl68_1 rfl rfl) rfl ?_
    refine Fw.ld sc3 rfl (Ha.cell 1) rfl ?_
    refine Fw.s2 (Fw.val_bin rfl rfl Fw.b_eql) rfl ?_ ?_
    · rintro hn
      refine Fw.nil ?_
      refine hK5 _ _ ?_
      refine Fw.condT rfl ?_
      refine Fw.seq fun _ hK7 => ?_
      refine Fw.region ?_
      refine Fw.s (Fw.val_fieldAddr fl68_2 rfl rfl) rfl ?_
      refine Fw.ld sc3 rfl (Ha.cell 2) rfl ?_
      refine Fw.call cf37 rfl rfl (isUrgency_any a.urg _) ?_
      rintro e_ _ ⟨b14, rfl, h14, rfl⟩
      refine ⟨_, rfl, ?_⟩
      refine Fw.b2 ?_ ?_
      · rintro rfl
        refine Fw.s (Fw.val_move rfl) rfl ?_
        refine Fw.gT (d := 15) rfl rfl ?_
        refine Fw.s (Fw.val_fieldAddr fl68_3 rfl rfl) rfl ?_
        refine Fw.gT (d := 15) rfl rfl ?_
        refine Fw.ld sc9 rfl (Ha.cell 3) rfl ?_
        refine Fw.gT (d := 15) rfl rfl ?_
        refine Fw.call cf38 rfl rfl (isCode_any a.code _) ?_
        rintro e_ _ ⟨b18, rfl, h18, rfl⟩
        refine ⟨_, rfl, ?_⟩
        refine Fw.b2 ?_ ?_
        · rintro rfl
          refine Fw.s (Fw.val_pickT rfl rfl) rfl ?_
          refine Fw.s (Fw.val_assign rfl) rfl ?_
          refine Fw.nil ?_
          refine hK7 _ _ (Fw.FC.sub (f' := [(4, _)]) (.cons rfl .nil) ?_)
          refine Fw.ret ?_
          refine Fw.X_ret ?_
          refine Fw.ret_ [.tmp 4] [_] Try.results31 (.tmp rfl .nil) ?_
          exact ⟨true, rfl, ⟨fun _ => ⟨h7.1 rfl, .inl ⟨hn, h14.1 rfl, h18.1 rfl⟩⟩, fun _ => rfl⟩, HB⟩
        · rintro rfl
          refine Fw.s (Fw.val_pickT rfl rfl) rfl ?_
          refine Fw.s (Fw.val_assign rfl) rfl ?_
          refine Fw.nil ?_
          refine hK7 _ _ (Fw.FC.sub (f' := [(4, _)]) (.cons rfl .nil) ?_)
          refine Fw.ret ?_
          refine Fw.X_ret ?_
          refine Fw.ret_ [.tmp 4] [_] Try.results31 (.tmp rfl .nil) ?_
          exact ⟨false, rfl, ⟨fun h => Bool.noConfusion h, fun h => by rcases h.2 with h | h; exact h18.2 h.2.2; exact absurd hn h.1⟩, HB⟩
      · rintro rfl
        refine Fw.s (Fw.val_move rfl) rfl ?_
        refine Fw.gF (d := 15) rfl rfl rfl rfl ?_
        refine Fw.gF (d := 15) rfl rfl rfl rfl ?_
        refine Fw.gF (d := 15) rfl rfl rfl rfl ?_
        refine Fw.s (Fw.val_pickF rfl rfl) rfl ?_
        refine Fw.s (Fw.val_assign rfl) rfl ?_
        refine Fw.nil ?_
        refine hK7 _ _ (Fw.FC.sub (f' := [(4, _)]) (.cons rfl .nil) ?_)
        refine Fw.ret ?_
        refine Fw.X_ret ?_
        refine Fw.ret_ [.tmp 4] [_] Try.results31 (.tmp rfl .nil) ?_
        exact ⟨false, rfl, ⟨fun h => Bool.noConfusion h, fun h => by rcases h.2 with h | h; exact h14.2 h.2.1; exact absurd hn h.1⟩, HB⟩
    · rintro hn
      refine Fw.nil ?_
      refine hK5 _ _ ?_
      refine Fw.condF rfl ?_
      refine Fw.skip ?_
      refine hK4 _ _ ?_
      refine Fw.seq fun _ hK8 => ?_
      refine Fw.region ?_
      refine Fw.s (Fw.val_fieldAddr fl68_1 rfl rfl) rfl ?_
      refine Fw.ld sc3 rfl (Ha.cell 1) rfl ?_
      refine Fw.s2 (Fw.val_bin rfl rfl Fw.b_geq) rfl ?_ ?_
      · rintro hg
        refine Fw.s (Fw.val_move rfl) rfl ?_
        refine Fw.gT (d := 23) rfl rfl ?_
        refine Fw.s (Fw.val_fieldAddr fl68_1 rfl rfl) rfl ?_
        refine Fw.gT (d := 23) rfl rfl ?_
        refine Fw.ld sc3 rfl (Ha.cell 1) rfl ?_
        refine Fw.gT (d := 23) rfl rfl ?_
        refine Fw.s (Fw.val_move rfl) rfl ?_
        refine Fw.gT (d := 23) rfl rfl ?_
        refine Fw.s2 (Fw.val_bin rfl rfl Fw.b_lss) rfl ?_ ?_
        · rintro hl
          refine Fw.s (Fw.val_pickT rfl rfl) rfl ?_
          refine Fw.s (Fw.val_move rfl) rfl ?_
          refine Fw.gT (d := 29) rfl rfl ?_
          refine Fw.s (Fw.val_fieldAddr fl68_2 rfl rfl) rfl ?_
          refine Fw.gT (d := 29) rfl rfl ?_
          refine Fw.ld sc3 rfl (Ha.cell 2) rfl ?_
          refine Fw.gT (d := 29) rfl rfl ?_
          refine Fw.s2 (Fw.val_bin rfl rfl Fw.b_eql) rfl ?_ ?_
          · rintro hu
            refine Fw.s (Fw.val_pickT rfl rfl) rfl ?_
            refine Fw.s (Fw.val_move rfl) rfl ?_
            refine Fw.gT (d := 34) rfl rfl ?_
            refine Fw.s (Fw.val_fieldAddr fl68_3 rfl rfl) rfl ?_
            refine Fw.gT (d := 34) rfl rfl ?_
            refine Fw.ld sc9 rfl (Ha.cell 3) rfl ?_
            refine Fw.gT (d := 34) rfl rfl ?_
            refine Fw.s2 (Fw.val_bin rfl rfl Fw.b_eqlS) rfl ?_ ?_
            · rintro hc
              refine Fw.s (Fw.val_pickT rfl rfl) rfl ?_
              refine Fw.s (Fw.val_assign rfl) rfl ?_
              refine Fw.nil ?_
              refine hK8 _ _ (Fw.FC.sub (f' := [(4, _)]) (.cons rfl .nil) ?_)
              refine Fw.ret ?_
              refine Fw.ret_ [.tmp 4] [_] Try.results31 (.tmp rfl .nil) ?_
              exact ⟨true, rfl, ⟨fun _ => ⟨h7.1 rfl, .inr ⟨hn, by omega, by omega, (Tk.empty_iff rfl).1 hc⟩⟩, fun _ => rfl⟩, HB⟩
            · rintro hc
              refine Fw.s (Fw.val_pickT rfl rfl) rfl ?_
              refine Fw.s (Fw.val_assign rfl) rfl ?_
              refine Fw.nil ?_
              refine hK8 _ _ (Fw.FC.sub (f' := [(4, _)]) (.cons rfl .nil) ?_)
              refine Fw.ret ?_
              refine Fw.ret_ [.tmp 4] [_] Try.results31 (.tmp rfl .nil) ?_
              exact ⟨false, rfl, ⟨fun h => Bool.noConfusion h, fun h => by rcases h.2 with h | h; exact absurd h.1 hn; exact absurd ((Tk.empty_iff rfl).2 h.2.2.2) hc⟩, HB⟩
          · rintro hu
            refine Fw.s (Fw.val_pickT rfl rfl) rfl ?_
            refine Fw.s (Fw.val_move rfl) rfl ?_
            refine Fw.gF (d := 34) rfl rfl rfl rfl ?_
            refine Fw.gF (d := 34) rfl rfl rfl rfl ?_
            refine Fw.gF (d := 34) rfl rfl rfl rfl ?_
            refine Fw.s (Fw.val_pickF rfl rfl) rfl ?_
            refine Fw.s (Fw.val_assign rfl) rfl ?_
            refine Fw.nil ?_
            refine hK8 _ _ (Fw.FC.sub (f' := [(4, _)]) (.cons rfl .nil) ?_)
            refine Fw.ret ?_
            refine Fw.ret_ [.tmp 4] [_] Try.results31 (.tmp rfl .nil) ?_
            exact ⟨false, rfl, ⟨fun h => Bool.noConfusion h, fun h => by rcases h.2 with h | h; exact absurd h.1 hn; omega⟩, HB⟩
        · rintro hl
          refine Fw.s (Fw.val_pickT rfl rfl) rfl ?_
          refine Fw.s (Fw.val_move rfl) rfl ?_
          refine Fw.gF (d := 29) rfl rfl rfl rfl ?_
          refine Fw.gF (d := 29) rfl rfl rfl rfl ?_
          refine Fw.gF (d := 29) rfl rfl rfl rfl ?_
          refine Fw.s (Fw.val_pickF rfl rfl) rfl ?_
          refine Fw.s (Fw.val_move rfl) rfl ?_
          refine Fw.gF (d := 34) rfl rfl rfl rfl ?_
          refine Fw.gF (d := 34) rfl rfl rfl rfl ?_
          refine Fw.gF (d := 34) rfl rfl rfl rfl ?_
          refine Fw.s (Fw.val_pickF rfl rfl) rfl ?_
          refine Fw.s (Fw.val_assign rfl) rfl ?_
          refine Fw.nil ?_
          refine hK8 _ _ (Fw.FC.sub (f' := [(4, _)]) (.cons rfl .nil) ?_)
          refine Fw.ret ?_
          refine Fw.ret_ [.tmp 4] [_] Try.results31 (.tmp rfl .nil) ?_
          exact ⟨false, rfl, ⟨fun h => Bool.noConfusion h, fun h => by rcases h.2 with h | h; exact absurd h.1 hn; omega⟩, HB⟩
      · rintro hg
        refine Fw.s (Fw.val_move rfl) rfl ?_
        refine Fw.gF (d := 23) rfl rfl rfl rfl ?_
        refine Fw.gF (d := 23) rfl rfl rfl rfl ?_
        refine Fw.gF (d := 23) rfl rfl rfl rfl ?_
        refine Fw.gF (d := 23) rfl rfl rfl rfl ?_
        refine Fw.s (Fw.val_pickF rfl rfl) rfl ?_
        refine Fw.s (Fw.val_move rfl) rfl ?_
        refine Fw.gF (d := 29) rfl rfl rfl rfl ?_
        refine Fw.gF (d := 29) rfl rfl rfl rfl ?_
        refine Fw.gF (d := 29) rfl rfl rfl rfl ?_
        refine Fw.s (Fw.val_pickF rfl rfl) rfl ?_
        refine Fw.s (Fw.val_move rfl) rfl ?_
        refine Fw.gF (d := 34) rfl rfl rfl rfl ?_
        refine Fw.gF (d := 34) rfl rfl rfl rfl ?_
        refine Fw.gF (d := 34) rfl rfl rfl rfl ?_
        refine Fw.s (Fw.val_pickF rfl rfl) rfl ?_
        refine Fw.s (Fw.val_assign rfl) rfl ?_
        refine Fw.nil ?_
        refine hK8 _ _ (Fw.FC.sub (f' := [(4, _)]) (.cons rfl .nil) ?_)
        refine Fw.ret ?_
        refine Fw.ret_ [.tmp 4] [_] Try.results31 (.tmp rfl .nil) ?_
        exact ⟨false, rfl, ⟨fun h => Bool.noConfusion h, fun h => by rcases h.2 with h | h; exact absurd h.1 hn; omega⟩, HB⟩
  · rintro rfl
    refine Fw.s (Fw.val_not rfl) rfl ?_
    refine Fw.nil ?_
    refine hK3 _ _ ?_
    refine Fw.condT rfl ?_
    refine Fw.seq fun _ hK13 => ?_
    refine Fw.region ?_
    refine Fw.s (Fw.val_assign rfl) rfl ?_
    refine Fw.nil ?_
    refine hK13 _ _ (Fw.FC.sub (f' := [(4, _)]) (.cons rfl .nil) ?_)
    refine Fw.ret ?_
    refine Fw.X_ret ?_
    refine Fw.ret_ [.tmp 4] [_] Try.results31 (.tmp rfl .nil) ?_
    exact ⟨false, rfl, ⟨fun h => Bool.noConfusion h, fun h => h7.2 h.1⟩, HB⟩

set_option maxRecDepth 100000 in
set_option maxHeartbeats 1000000 in
theorem validQuestion_any (q : Tk.Qu) (N : Nat) (w : World) (hr : Rd w q.A (q.an.flatMap Tk.An.cells)) : Calls Try.prog 17 #[.agg #[.string q.text, .slice q.A q.an.length q.c], .int .i64 (N : Int)] w fun e_ w' => ∃ b, e_ = .returned (.bool b) ∧ (b = true ↔ Tk.VQ N q) ∧ Below w.heap.size w w' := by
  refine Fw.calls Try.func17 rfl Try.ntmps17 rfl ?_
  have HB := Below.refl (w.heap.size) w
  refine Fw.seq fun _ hK1 => ?_
  refine Fw.region ?_
  refine Fw.box rfl rfl ?_
  intro w1 gq egq Hq hb
  have lgq : w.heap.size ≤ gq := by have := HB.size; omega
  replace HB := HB.trans (hb.mono HB.size)
  clear hb
  clear egq
  refine Fw.s (Fw.val_assign rfl) rfl ?_
  refine Fw.nil ?_
  refine hK1 _ _ ?_
  refine Fw.seq fun _ hK2 => ?_
  refine Fw.seq fun _ hK3 => ?_
  refine Fw.region ?_
  refine Fw.s (Fw.val_fieldAddr fl30_0 rfl rfl) rfl ?_
  refine Fw.ld sc9 rfl (Hq.cell 0) rfl ?_
  refine Fw.call cf30 rfl rfl (isPhrase_any q.text 200 (by decide) _) ?_
  rintro e_ _ ⟨b9, rfl, h9, rfl⟩
  refine ⟨_, rfl, ?_⟩
  refine Fw.b2 ?_ ?_
  · rintro rfl
    refine Fw.s (Fw.val_not rfl) rfl ?_
    refine Fw.s (Fw.val_move rfl) rfl ?_
    refine Fw.gT (d := 11) rfl rfl ?_
    refine Fw.s (Fw.val_fieldAddr fl30_1 rfl rfl) rfl ?_
    refine Fw.gT (d := 11) rfl rfl ?_
    refine Fw.ld sc28 rfl (Hq.cell 1) rfl ?_
    refine Fw.gT (d := 11) rfl rfl ?_
    refine Fw.s (Fw.val_len Try.underlying28 rfl) rfl ?_
    refine Fw.gT (d := 11) rfl rfl ?_
    refine Fw.s2 (Fw.val_bin rfl rfl Fw.b_lss) rfl ?_ ?_
    · rintro h1
      refine Fw.s (Fw.val_pickF rfl rfl) rfl ?_
      refine Fw.s (Fw.val_move rfl) rfl ?_
      refine Fw.gF (d := 17) rfl rfl rfl rfl ?_
      refine Fw.gF (d := 17) rfl rfl rfl rfl ?_
      refine Fw.gF (d := 17) rfl rfl rfl rfl ?_
      refine Fw.gF (d := 17) rfl rfl rfl rfl ?_
      refine Fw.s (Fw.val_pickT rfl rfl) rfl ?_
      refine Fw.nil ?_
      refine hK3 _ _ (Fw.FC.sub (f' := [(22, _), (2, _), (1, _)]) (.cons rfl (.cons rfl (.cons rfl .nil))) ?_)
      refine Fw.condT rfl ?_
      refine Fw.seq fun _ hK5 => ?_
      refine Fw.region ?_
      refine Fw.s (Fw.val_assign rfl) rfl ?_
      refine Fw.nil ?_
      refine hK5 _ _ ?_
      refine Fw.ret ?_
      refine Fw.X_ret ?_
      refine Fw.ret_ [.tmp 4] [_] Try.results17 (.tmp rfl .nil) ?_
      exact ⟨false, rfl, ⟨fun h => Bool.noConfusion h, fun h => by have := h.2.1; omega⟩, HB⟩
    · rintro h1
      refine Fw.s (Fw.val_pickF rfl rfl) rfl ?_
      refine Fw.s (Fw.val_move rfl) rfl ?_
      refine Fw.gT (d := 17) rfl rfl ?_
      refine Fw.s (Fw.val_fieldAddr fl30_1 rfl rfl) rfl ?_
      refine Fw.gT (d := 17) rfl rfl ?_
      refine Fw.ld sc28 rfl (Hq.cell 1) rfl ?_
      refine Fw.gT (d := 17) rfl rfl ?_
      refine Fw.s (Fw.val_len Try.underlying28 rfl) rfl ?_
      refine Fw.gT (d := 17) rfl rfl ?_
      refine Fw.s2 (Fw.val_bin rfl rfl Fw.b_gtr) rfl ?_ ?_
      · rintro h16
        refine Fw.s (Fw.val_pickF rfl rfl) rfl ?_
        refine Fw.nil ?_
        refine hK3 _ _ (Fw.FC.sub (f' := [(22, _), (2, _), (1, _)]) (.cons rfl (.cons rfl (.cons rfl .nil))) ?_)
        refine Fw.condT rfl ?_
        refine Fw.seq fun _ hK7 => ?_
        refine Fw.region ?_
        refine Fw.s (Fw.val_assign rfl) rfl ?_
        refine Fw.nil ?_
        refine hK7 _ _ ?_
        refine Fw.ret ?_
        refine Fw.X_ret ?_
        refine Fw.ret_ [.tmp 4] [_] Try.results17 (.tmp rfl .nil) ?_
        exact ⟨false, rfl, ⟨fun h => Bool.noConfusion h, fun h => by have := h.2.1; omega⟩, HB⟩
      · rintro h16
        refine Fw.s (Fw.val_pickF rfl rfl) rfl ?_
        refine Fw.nil ?_
        refine hK3 _ _ (Fw.FC.sub (f' := [(22, _), (2, _), (1, _)]) (.cons rfl (.cons rfl (.cons rfl .nil))) ?_)
        refine Fw.condF rfl ?_
        refine Fw.skip ?_
        refine hK2 _ _ ?_
        refine Fw.seq fun _ hK8 => ?_
        refine Fw.seq fun _ hK9 => ?_
        refine Fw.region ?_
        refine Fw.s (Fw.val_fieldAddr fl30_1 rfl rfl) rfl ?_
        refine Fw.ld sc28 rfl (Hq.cell 1) rfl ?_
        refine Fw.s (Fw.val_len Try.underlying28 rfl) rfl ?_
        refine Fw.s (Fw.val_move rfl) rfl ?_
        refine Fw.nil ?_
        refine hK9 _ _ ?_
        refine Fw.block ?_
        refine Fw.loop (fun m_ f_ W_ => ∃ (k : Nat), m_ = q.an.length - k ∧ k ≤ q.an.length ∧ (∀ a ∈ q.an.take k, Tk.VA N a) ∧ Below (w.heap.size) w W_ ∧ f_ = [(26, .int .i64 k), (25, .int .i64 q.an.length), (24, .slice q.A q.an.length q.c), (1, .int .i64 (N : Int))]) ⟨_, _, ⟨0, rfl, Nat.zero_le _, (fun a ha => by cases ha), HB, rfl⟩, (.cons rfl (.cons rfl (.cons rfl (.cons rfl .nil))))⟩ ?_
        clear HB
        rintro m10_ _ w2 ⟨k, hm10_, hk, hok, HB, rfl⟩
        refine Fw.seq fun _ hK11 => ?_
        refine Fw.region ?_
        refine Fw.s2 (Fw.val_bin rfl rfl Fw.b_lss) rfl ?_ ?_
        · rintro hlt
          refine Fw.nil ?_
          refine hK11 _ _ ?_
          refine Fw.seq fun _ hK13 => ?_
          refine Fw.condT rfl ?_
          refine Fw.skip ?_
          refine hK13 _ _ ?_
          refine Fw.seq fun _ hK14 => ?_
          refine Fw.block ?_
          refine Fw.seq fun _ hK15 => ?_
          have hk2 : k < q.an.length := by omega
          obtain ⟨ad, b_, o_, hA, hadd, HAe⟩ := Fw.rdAt Tk.An.len (by decide) hr k hk2
          refine Fw.region ?_
          refine Fw.s (Fw.val_indexR Try.underlying28 sz68 rfl hA rfl rfl hk2 hadd) rfl ?_
          refine Fw.ldA ag68 rfl ((HAe.low HB)) rfl rfl ?_
          refine Fw.alloc ze68 rfl ?_
          intro w3 ga ega Ha hb
          have lga : w.heap.size ≤ ga := by have := HB.size; omega
          replace HB := HB.trans (hb.mono HB.size)
          clear hb
          clear ega
          refine Fw.storeW sz68 rfl rfl Ha rfl rfl (by exact Fw.oneCells rfl) ?_
          intro w4 N_ hc
          replace HB := HB.trans (hc.below (B := w.heap.size) (fun k e => by omega) HB.size)
          clear hc
          clear Ha
          have Ha := N_
          clear N_
          replace Ha : Blk w4 ga 68 #[.string q.an[k].text, .int .i64 q.an[k].next, .int .i64 q.an[k].urg, .string q.an[k].code] := Ha
          refine Fw.nil ?_
          refine hK15 _ _ ?_
          refine Fw.seq fun _ hK17 => ?_
          refine Fw.region ?_
          refine Fw.ldA ag68 rfl (Fw.rdBlk Ha) rfl rfl ?_
          refine Fw.s (Fw.val_move rfl) rfl ?_
          refine Fw.call cf31 rfl rfl (validAnswer_any q.an[k] N _) ?_
          rintro e_ w5 ⟨b32, rfl, h32, hb⟩
          refine ⟨_, rfl, ?_⟩
          replace Ha := Ha.low hb
          replace HB := HB.trans (hb.mono HB.size)
          clear hb
          refine Fw.b2 ?_ ?_
          · rintro rfl
            refine Fw.s (Fw.val_not rfl) rfl ?_
            refine Fw.nil ?_
            refine hK17 _ _ (Fw.FC.sub (f' := [(33, _), (26, _), (25, _), (24, _), (1, _)]) (.cons rfl (.cons rfl (.cons rfl (.cons rfl (.cons rfl .nil))))) ?_)
            refine Fw.condF rfl ?_
            refine Fw.skip ?_
            refine Fw.X_blockN ?_
            refine hK14 _ _ ?_
            refine Fw.region ?_
            refine Fw.s (Fw.val_bin rfl rfl (Fw.b_add (Fw.i64_ok (by omega)))) rfl ?_
            refine Fw.s (Fw.val_move rfl) rfl ?_
            refine Fw.nil ?_
            refine Fw.roundEnd _ _ (by omega) ⟨k + 1, rfl, by omega, Tk.all_take hk2 hok (h32.1 rfl), HB, rfl⟩ (.cons rfl (.cons rfl (.cons rfl (.cons rfl .nil))))
          · rintro rfl
            refine Fw.s (Fw.val_not rfl) rfl ?_
            refine Fw.nil ?_
            refine hK17 _ _ (Fw.FC.sub (f' := [(33, _), (26, _), (25, _), (24, _), (1, _)]) (.cons rfl (.cons rfl (.cons rfl (.cons rfl (.cons rfl .nil))))) ?_)
            refine Fw.condT rfl ?_
            refine Fw.seq fun _ hK18 => ?_
            refine Fw.region ?_
            refine Fw.s (Fw.val_assign rfl) rfl ?_
            refine Fw.nil ?_
            refine hK18 _ _ ?_
            refine Fw.ret ?_
            refine Fw.X_blockR ?_
            refine Fw.X_ret ?_
            refine Fw.X_ret ?_
            refine Fw.X_blockR ?_
            refine Fw.X_ret ?_
            refine Fw.ret_ [.tmp 4] [_] Try.results17 (.tmp rfl .nil) ?_
            exact ⟨false, rfl, ⟨fun h => Bool.noConfusion h, fun h => h32.2 (h.2.2 _ (List.getElem_mem hk2))⟩, HB⟩
        · rintro hlt
          refine Fw.nil ?_
          refine hK11 _ _ ?_
          refine Fw.seq fun _ hK19 => ?_
          refine Fw.condF rfl ?_
          refine Fw.exit ?_
          refine Fw.X_exit ?_
          refine Fw.X_exit ?_
          refine Fw.X_block ?_
          refine hK8 _ _ ?_
          refine Fw.seq fun _ hK20 => ?_
          refine Fw.region ?_
          refine Fw.s (Fw.val_assign rfl) rfl ?_
          refine Fw.nil ?_
          refine hK20 _ _ ?_
          refine Fw.ret ?_
          refine Fw.ret_ [.tmp 4] [_] Try.results17 (.tmp rfl .nil) ?_
          exact ⟨true, rfl, ⟨fun _ => ⟨h9.1 rfl, by omega, by rw [List.take_of_length_le (by omega)] at hok; exact hok⟩, fun _ => rfl⟩, HB⟩
  · rintro rfl
    refine Fw.s (Fw.val_not rfl) rfl ?_
    refine Fw.s (Fw.val_move rfl) rfl ?_
    refine Fw.gF (d := 11) rfl rfl rfl rfl ?_
    refine Fw.gF (d := 11) rfl rfl rfl rfl ?_
    refine Fw.gF (d := 11) rfl rfl rfl rfl ?_
    refine Fw.gF (d := 11) rfl rfl rfl rfl ?_
    refine Fw.s (Fw.val_pickT rfl rfl) rfl ?_
    refine Fw.s (Fw.val_move rfl) rfl ?_
    refine Fw.gF (d := 17) rfl rfl rfl rfl ?_
    refine Fw.gF (d := 17) rfl rfl rfl rfl ?_
    refine Fw.gF (d := 17) rfl rfl rfl rfl ?_
    refine Fw.gF (d := 17) rfl rfl rfl rfl ?_
    refine Fw.s (Fw.val_pickT rfl rfl) rfl ?_
    refine Fw.nil ?_
    refine hK3 _ _ (Fw.FC.sub (f' := [(22, _), (2, _), (1, _)]) (.cons rfl (.cons rfl (.cons rfl .nil))) ?_)
    refine Fw.condT rfl ?_
    refine Fw.seq fun _ hK21 => ?_
    refine Fw.region ?_
    refine Fw.s (Fw.val_assign rfl) rfl ?_
    refine Fw.nil ?_
    refine hK21 _ _ ?_
    refine Fw.ret ?_
    refine Fw.X_ret ?_
    refine Fw.ret_ [.tmp 4] [_] Try.results17 (.tmp rfl .nil) ?_
    exact ⟨false, rfl, ⟨fun h => Bool.noConfusion h, fun h => h9.2 h.1⟩, HB⟩

set_option maxRecDepth 100000 in
set_option maxHeartbeats 1000000 in
theorem validate_any (w : World) (nm : ByteArray) (ver : Int) (Tq : Option Addr) (qs : List Tk.Qu) (cq : Nat) (hql : qs.length ≤ 65536) (hq : Tk.QsAt w Tq qs) : Calls Try.prog 5 #[.agg #[.string nm, .int .i64 ver, .slice Tq qs.length cq]] w fun e_ w' => ∃ i c, e_ = .returned (.tuple #[.int .i64 i, .int .i64 c]) ∧ (c = 0 ↔ Tk.VP nm ver qs) ∧ Below w.heap.size w w' := by
  refine Fw.calls Try.func5 rfl Try.ntmps5 rfl ?_
  have HB := Below.refl (w.heap.size) w
  refine Fw.seq fun _ hK1 => ?_
  refine Fw.region ?_
  refine Fw.box rfl rfl ?_
  intro w1 gt egt Ht hb
  have lgt : w.heap.size ≤ gt := by have := HB.size; omega
  replace HB := HB.trans (hb.mono HB.size)
  clear hb
  clear egt
  refine Fw.s (Fw.val_assign rfl) rfl ?_
  refine Fw.s (Fw.val_assign rfl) rfl ?_
  refine Fw.nil ?_
  refine hK1 _ _ ?_
  refine Fw.seq fun _ hK2 => ?_
  refine Fw.region ?_
  refine Fw.s (Fw.val_fieldAddr fl24_2 rfl rfl) rfl ?_
  refine Fw.ld sc22 rfl (Ht.cell 2) rfl ?_
  refine Fw.s (Fw.val_len Try.underlying22 rfl) rfl ?_
  refine Fw.s (Fw.val_assign rfl) rfl ?_
  refine Fw.nil ?_
  refine hK2 _ _ ?_
  refine Fw.seq fun _ hK3 => ?_
  refine Fw.seq fun _ hK4 => ?_
  refine Fw.region ?_
  refine Fw.s (Fw.val_fieldAddr fl24_2 rfl rfl) rfl ?_
  refine Fw.ld sc22 rfl (Ht.cell 2) rfl ?_
  refine Fw.s (Fw.val_len Try.underlying22 rfl) rfl ?_
  refine Fw.s (Fw.val_move rfl) rfl ?_
  refine Fw.nil ?_
  refine hK4 _ _ (Fw.FC.sub (f' := [(13, _), (12, _), (11, _), (4, _), (1, _)]) (.cons rfl (.cons rfl (.cons rfl (.cons rfl (.cons rfl .nil))))) ?_)
  refine Fw.block ?_
  refine Fw.loop (fun m_ f_ W_ => ∃ (k : Nat), m_ = qs.length - k ∧ k ≤ qs.length ∧ (∀ a ∈ qs.take k, Tk.VQ qs.length a) ∧ Blk W_ gt 24 #[.string nm, .int .i64 ver, .slice Tq qs.length cq] ∧ Below (w.heap.size) w W_ ∧ f_ = [(13, .int .i64 k), (12, .int .i64 qs.length), (11, .slice Tq qs.length cq), (4, .int .i64 qs.length), (1, .pointer (some ⟨gt, 0, none⟩))]) ⟨_, _, ⟨0, rfl, Nat.zero_le _, (fun a ha => by cases ha), Ht, HB, rfl⟩, (.cons rfl (.cons rfl (.cons rfl (.cons rfl (.cons rfl .nil)))))⟩ ?_
  clear Ht HB
  rintro m5_ _ w2 ⟨k, hm5_, hk, hok, Ht, HB, rfl⟩
  refine Fw.seq fun _ hK6 => ?_
  refine Fw.region ?_
  refine Fw.s2 (Fw.val_bin rfl rfl Fw.b_lss) rfl ?_ ?_
  · rintro hlt
    refine Fw.nil ?_
    refine hK6 _ _ ?_
    refine Fw.seq fun _ hK8 => ?_
    refine Fw.condT rfl ?_
    refine Fw.skip ?_
    refine hK8 _ _ ?_
    refine Fw.seq fun _ hK9 => ?_
    refine Fw.block ?_
    refine Fw.seq fun _ hK10 => ?_
    have hk2 : k < qs.length := by omega
    obtain ⟨ad, b_, o_, hA, hadd, HQe⟩ := Fw.rdAt Tk.Qu.len (by decide) hq.1 k hk2
    refine Fw.region ?_
    refine Fw.s (Fw.val_move rfl) rfl ?_
    refine Fw.s (Fw.val_indexR Try.underlying22 sz30 rfl hA rfl rfl hk2 hadd) rfl ?_
    refine Fw.ldA ag30 rfl ((HQe.low HB)) rfl rfl ?_
    refine Fw.alloc ze30 rfl ?_
    intro w3 gq egq Hq hb
    have n_gt_gq : gt < gq := by have := Ht.lt; omega
    have lgq : w.heap.size ≤ gq := by have := HB.size; omega
    replace Ht := Ht.low hb
    replace HB := HB.trans (hb.mono HB.size)
    clear hb
    clear egq
    refine Fw.s (Fw.val_assign rfl) rfl ?_
    refine Fw.storeW sz30 rfl rfl Hq rfl rfl (by exact Fw.oneCells rfl) ?_
    intro w4 N_ hc
    replace Ht := Ht.chg hc (by omega)
    replace HB := HB.trans (hc.below (B := w.heap.size) (fun k e => by omega) HB.size)
    clear hc
    clear Hq
    have Hq := N_
    clear N_
    replace Hq : Blk w4 gq 30 #[.string qs[k].text, .slice qs[k].A qs[k].an.length qs[k].c] := Hq
    refine Fw.nil ?_
    refine hK10 _ _ ?_
    refine Fw.seq fun _ hK12 => ?_
    refine Fw.region ?_
    refine Fw.ldA ag30 rfl (Fw.rdBlk Hq) rfl rfl ?_
    refine Fw.s (Fw.val_move rfl) rfl ?_
    refine Fw.call cf17 rfl rfl (validQuestion_any qs[k] qs.length _ ((hq.2 _ (List.getElem_mem hk2)).low HB)) ?_
    rintro e_ w5 ⟨b20, rfl, h20, hb⟩
    refine ⟨_, rfl, ?_⟩
    replace Ht := Ht.low hb
    replace Hq := Hq.low hb
    replace HB := HB.trans (hb.mono HB.size)
    clear hb
    refine Fw.b2 ?_ ?_
    · rintro rfl
      refine Fw.s (Fw.val_not rfl) rfl ?_
      refine Fw.nil ?_
      refine hK12 _ _ (Fw.FC.sub (f' := [(21, _), (5, _), (13, _), (12, _), (11, _), (4, _), (1, _)]) (.cons rfl (.cons rfl (.cons rfl (.cons rfl (.cons rfl (.cons rfl (.cons rfl .nil))))))) ?_)
      refine Fw.condF rfl ?_
      refine Fw.skip ?_
      refine Fw.X_blockN ?_
      refine hK9 _ _ ?_
      refine Fw.region ?_
      refine Fw.s (Fw.val_bin rfl rfl (Fw.b_add (Fw.i64_ok (by omega)))) rfl ?_
      refine Fw.s (Fw.val_move rfl) rfl ?_
      refine Fw.nil ?_
      refine Fw.roundEnd _ _ (by omega) ⟨k + 1, rfl, by omega, Tk.all_take hk2 hok (h20.1 rfl), Ht, HB, rfl⟩ (.cons rfl (.cons rfl (.cons rfl (.cons rfl (.cons rfl .nil)))))
    · rintro rfl
      refine Fw.s (Fw.val_not rfl) rfl ?_
      refine Fw.nil ?_
      refine hK12 _ _ (Fw.FC.sub (f' := [(21, _), (5, _), (13, _), (12, _), (11, _), (4, _), (1, _)]) (.cons rfl (.cons rfl (.cons rfl (.cons rfl (.cons rfl (.cons rfl (.cons rfl .nil))))))) ?_)
      refine Fw.condT rfl ?_
      refine Fw.seq fun _ hK13 => ?_
      refine Fw.region ?_
      refine Fw.s (Fw.val_move rfl) rfl ?_
      refine Fw.s (Fw.val_assign rfl) rfl ?_
      refine Fw.s (Fw.val_assign rfl) rfl ?_
      refine Fw.nil ?_
      refine hK13 _ _ (Fw.FC.sub (f' := [(3, _), (2, _)]) (.cons rfl (.cons rfl .nil)) ?_)
      refine Fw.ret ?_
      refine Fw.X_blockR ?_
      refine Fw.X_ret ?_
      refine Fw.X_ret ?_
      refine Fw.X_blockR ?_
      refine Fw.X_ret ?_
      refine Fw.ret_ [.tmp 2, .tmp 3] [_, _] Try.results5 (.tmp rfl (.tmp rfl .nil)) ?_
      exact ⟨_, _, rfl, ⟨fun h => absurd h (by decide), fun h => absurd (h20.2 (h.1 _ (List.getElem_mem hk2))) (by decide)⟩, HB⟩
  · rintro hlt
    refine Fw.nil ?_
    refine hK6 _ _ ?_
    refine Fw.seq fun _ hK14 => ?_
    refine Fw.condF rfl ?_
    refine Fw.exit ?_
    refine Fw.X_exit ?_
    refine Fw.X_exit ?_
    refine Fw.X_block ?_
    refine hK3 _ _ ?_
    refine Fw.seq fun _ hK15 => ?_
    refine Fw.seq fun _ hK16 => ?_
    rw [List.take_of_length_le (by omega)] at hok
    refine Fw.region ?_
    refine Fw.s (Fw.val_fieldAddr fl24_0 rfl rfl) rfl ?_
    refine Fw.ld sc9 rfl (Ht.cell 0) rfl ?_
    refine Fw.call cf18 rfl rfl (isName_any nm _) ?_
    rintro e_ _ ⟨b26, rfl, h26, rfl⟩
    refine ⟨_, rfl, ?_⟩
    refine Fw.b2 ?_ ?_
    · rintro rfl
      refine Fw.s (Fw.val_not rfl) rfl ?_
      refine Fw.s (Fw.val_move rfl) rfl ?_
      refine Fw.gT (d := 28) rfl rfl ?_
      refine Fw.s (Fw.val_fieldAddr fl24_1 rfl rfl) rfl ?_
      refine Fw.gT (d := 28) rfl rfl ?_
      refine Fw.ld sc3 rfl (Ht.cell 1) rfl ?_
      refine Fw.gT (d := 28) rfl rfl ?_
      refine Fw.call cf19 rfl rfl (isVersion_any ver _) ?_
      rintro e_ _ ⟨b31, rfl, h31, rfl⟩
      refine ⟨_, rfl, ?_⟩
      refine Fw.b2 ?_ ?_
      · rintro rfl
        refine Fw.gT (d := 28) rfl rfl ?_
        refine Fw.s (Fw.val_not rfl) rfl ?_
        refine Fw.s (Fw.val_pickF rfl rfl) rfl ?_
        refine Fw.s (Fw.val_move rfl) rfl ?_
        refine Fw.gT (d := 34) rfl rfl ?_
        refine Fw.s (Fw.val_move rfl) rfl ?_
        refine Fw.gT (d := 34) rfl rfl ?_
        refine Fw.s2 (Fw.val_bin rfl rfl Fw.b_lss) rfl ?_ ?_
        · rintro h1
          refine Fw.s (Fw.val_pickF rfl rfl) rfl ?_
          refine Fw.s (Fw.val_move rfl) rfl ?_
          refine Fw.gF (d := 38) rfl rfl rfl rfl ?_
          refine Fw.gF (d := 38) rfl rfl rfl rfl ?_
          refine Fw.s (Fw.val_pickT rfl rfl) rfl ?_
          refine Fw.nil ?_
          refine hK16 _ _ (Fw.FC.sub (f' := [(41, _)]) (.cons rfl .nil) ?_)
          refine Fw.condT rfl ?_
          refine Fw.seq fun _ hK18 => ?_
          refine Fw.region ?_
          refine Fw.s (Fw.val_assign rfl) rfl ?_
          refine Fw.s (Fw.val_assign rfl) rfl ?_
          refine Fw.nil ?_
          refine hK18 _ _ ?_
          refine Fw.ret ?_
          refine Fw.X_ret ?_
          refine Fw.ret_ [.tmp 2, .tmp 3] [_, _] Try.results5 (.tmp rfl (.tmp rfl .nil)) ?_
          exact ⟨_, _, rfl, ⟨fun h => absurd h (by decide), fun h => by have := h.2.2.2; omega⟩, HB⟩
        · rintro h1
          refine Fw.s (Fw.val_pickF rfl rfl) rfl ?_
          refine Fw.s (Fw.val_move rfl) rfl ?_
          refine Fw.gT (d := 38) rfl rfl ?_
          refine Fw.s (Fw.val_move rfl) rfl ?_
          refine Fw.gT (d := 38) rfl rfl ?_
          refine Fw.s2 (Fw.val_bin rfl rfl Fw.b_gtr) rfl ?_ ?_
          · rintro h64
            refine Fw.s (Fw.val_pickF rfl rfl) rfl ?_
            refine Fw.nil ?_
            refine hK16 _ _ (Fw.FC.sub (f' := [(41, _)]) (.cons rfl .nil) ?_)
            refine Fw.condT rfl ?_
            refine Fw.seq fun _ hK20 => ?_
            refine Fw.region ?_
            refine Fw.s (Fw.val_assign rfl) rfl ?_
            refine Fw.s (Fw.val_assign rfl) rfl ?_
            refine Fw.nil ?_
            refine hK20 _ _ ?_
            refine Fw.ret ?_
            refine Fw.X_ret ?_
            refine Fw.ret_ [.tmp 2, .tmp 3] [_, _] Try.results5 (.tmp rfl (.tmp rfl .nil)) ?_
            exact ⟨_, _, rfl, ⟨fun h => absurd h (by decide), fun h => by have := h.2.2.2; omega⟩, HB⟩
          · rintro h64
            refine Fw.s (Fw.val_pickF rfl rfl) rfl ?_
            refine Fw.nil ?_
            refine hK16 _ _ (Fw.FC.sub (f' := [(41, _)]) (.cons rfl .nil) ?_)
            refine Fw.condF rfl ?_
            refine Fw.skip ?_
            refine hK15 _ _ ?_
            refine Fw.seq fun _ hK21 => ?_
            refine Fw.region ?_
            refine Fw.s (Fw.val_assign rfl) rfl ?_
            refine Fw.s (Fw.val_assign rfl) rfl ?_
            refine Fw.nil ?_
            refine hK21 _ _ ?_
            refine Fw.ret ?_
            refine Fw.ret_ [.tmp 2, .tmp 3] [_, _] Try.results5 (.tmp rfl (.tmp rfl .nil)) ?_
            exact ⟨_, _, rfl, ⟨fun _ => ⟨hok, h26.1 rfl, h31.1 rfl, by omega⟩, fun _ => rfl⟩, HB⟩
      · rintro rfl
        refine Fw.gT (d := 28) rfl rfl ?_
        refine Fw.s (Fw.val_not rfl) rfl ?_
        refine Fw.s (Fw.val_pickF rfl rfl) rfl ?_
        refine Fw.s (Fw.val_move rfl) rfl ?_
        refine Fw.gF (d := 34) rfl rfl rfl rfl ?_
        refine Fw.gF (d := 34) rfl rfl rfl rfl ?_
        refine Fw.s (Fw.val_pickT rfl rfl) rfl ?_
        refine Fw.s (Fw.val_move rfl) rfl ?_
        refine Fw.gF (d := 38) rfl rfl rfl rfl ?_
        refine Fw.gF (d := 38) rfl rfl rfl rfl ?_
        refine Fw.s (Fw.val_pickT rfl rfl) rfl ?_
        refine Fw.nil ?_
        refine hK16 _ _ (Fw.FC.sub (f' := [(41, _)]) (.cons rfl .nil) ?_)
        refine Fw.condT rfl ?_
        refine Fw.seq fun _ hK22 => ?_
        refine Fw.region ?_
        refine Fw.s (Fw.val_assign rfl) rfl ?_
        refine Fw.s (Fw.val_assign rfl) rfl ?_
        refine Fw.nil ?_
        refine hK22 _ _ ?_
        refine Fw.ret ?_
        refine Fw.X_ret ?_
        refine Fw.ret_ [.tmp 2, .tmp 3] [_, _] Try.results5 (.tmp rfl (.tmp rfl .nil)) ?_
        exact ⟨_, _, rfl, ⟨fun h => absurd h (by decide), fun h => absurd (h31.2 h.2.2.1) (by decide)⟩, HB⟩
    · rintro rfl
      refine Fw.s (Fw.val_not rfl) rfl ?_
      refine Fw.s (Fw.val_move rfl) rfl ?_
      refine Fw.gF (d := 28) rfl rfl rfl rfl ?_
      refine Fw.gF (d := 28) rfl rfl rfl rfl ?_
      refine Fw.gF (d := 28) rfl rfl rfl rfl ?_
      refine Fw.gF (d := 28) rfl rfl rfl rfl ?_
      refine Fw.s (Fw.val_pickT rfl rfl) rfl ?_
      refine Fw.s (Fw.val_move rfl) rfl ?_
      refine Fw.gF (d := 34) rfl rfl rfl rfl ?_
      refine Fw.gF (d := 34) rfl rfl rfl rfl ?_
      refine Fw.s (Fw.val_pickT rfl rfl) rfl ?_
      refine Fw.s (Fw.val_move rfl) rfl ?_
      refine Fw.gF (d := 38) rfl rfl rfl rfl ?_
      refine Fw.gF (d := 38) rfl rfl rfl rfl ?_
      refine Fw.s (Fw.val_pickT rfl rfl) rfl ?_
      refine Fw.nil ?_
      refine hK16 _ _ (Fw.FC.sub (f' := [(41, _)]) (.cons rfl .nil) ?_)
      refine Fw.condT rfl ?_
      refine Fw.seq fun _ hK23 => ?_
      refine Fw.region ?_
      refine Fw.s (Fw.val_assign rfl) rfl ?_
      refine Fw.s (Fw.val_assign rfl) rfl ?_
      refine Fw.nil ?_
      refine hK23 _ _ ?_
      refine Fw.ret ?_
      refine Fw.X_ret ?_
      refine Fw.ret_ [.tmp 2, .tmp 3] [_, _] Try.results5 (.tmp rfl (.tmp rfl .nil)) ?_
      exact ⟨_, _, rfl, ⟨fun h => absurd h (by decide), fun h => absurd (h26.2 h.2.1) (by decide)⟩, HB⟩

set_option maxRecDepth 100000 in
set_option maxHeartbeats 1000000 in
theorem isValid_any (w : World) (nm : ByteArray) (ver : Int) (Tq : Option Addr) (qs : List Tk.Qu) (cq : Nat) (hql : qs.length ≤ 65536) (hq : Tk.QsAt w Tq qs) : Calls Try.prog 20 #[.agg #[.string nm, .int .i64 ver, .slice Tq qs.length cq]] w fun e_ w' => ∃ b, e_ = .returned (.bool b) ∧ (b = true ↔ Tk.VP nm ver qs) ∧ Below w.heap.size w w' := by
  refine Fw.calls Try.func20 rfl Try.ntmps20 rfl ?_
  have HB := Below.refl (w.heap.size) w
  refine Fw.seq fun _ hK1 => ?_
  refine Fw.region ?_
  refine Fw.box rfl rfl ?_
  intro w1 gt egt Ht hb
  have lgt : w.heap.size ≤ gt := by have := HB.size; omega
  replace HB := HB.trans (hb.mono HB.size)
  clear hb
  clear egt
  refine Fw.s (Fw.val_assign rfl) rfl ?_
  refine Fw.nil ?_
  refine hK1 _ _ ?_
  refine Fw.seq fun _ hK2 => ?_
  refine Fw.region ?_
  refine Fw.ldA ag24 rfl (Fw.rdBlk Ht) rfl rfl ?_
  refine Fw.call cf5 rfl rfl (validate_any _ nm ver Tq qs cq hql (hq.low HB)) ?_
  rintro e_ w2 ⟨i7, c7, rfl, h7, hb⟩
  refine ⟨_, rfl, ?_⟩
  replace Ht := Ht.low hb
  replace HB := HB.trans (hb.mono HB.size)
  clear hb
  refine Fw.s (Fw.val_move rfl) rfl ?_
  refine Fw.s (Fw.val_extract rfl rfl) rfl ?_
  refine Fw.s (Fw.val_extract rfl rfl) rfl ?_
  refine Fw.s (Fw.val_assign rfl) rfl ?_
  refine Fw.s (Fw.val_assign rfl) rfl ?_
  refine Fw.nil ?_
  refine hK2 _ _ (Fw.FC.sub (f' := [(4, _)]) (.cons rfl .nil) ?_)
  refine Fw.seq fun _ hK3 => ?_
  refine Fw.region ?_
  refine Fw.s (Fw.val_move rfl) rfl ?_
  refine Fw.s2 (Fw.val_bin rfl rfl Fw.b_eql) rfl ?_ ?_
  · rintro hc
    refine Fw.s (Fw.val_assign rfl) rfl ?_
    refine Fw.nil ?_
    refine hK3 _ _ ?_
    refine Fw.ret ?_
    refine Fw.ret_ [.tmp 2] [_] Try.results20 (.tmp rfl .nil) ?_
    exact ⟨true, rfl, ⟨fun _ => h7.1 (by omega), fun _ => rfl⟩, HB⟩
  · rintro hc
    refine Fw.s (Fw.val_assign rfl) rfl ?_
    refine Fw.nil ?_
    refine hK3 _ _ ?_
    refine Fw.ret ?_
    refine Fw.ret_ [.tmp 2] [_] Try.results20 (.tmp rfl .nil) ?_
    exact ⟨false, rfl, ⟨fun h => Bool.noConfusion h, fun h => absurd (h7.2 h) hc⟩, HB⟩

set_option maxRecDepth 100000 in
set_option maxHeartbeats 1000000 in
theorem isQuestion_any (w : World) (nm : ByteArray) (ver : Int) (Tq : Option Addr) (qs : List Tk.Qu) (cq : Nat) (i : Int) : Calls Try.prog 25 #[.agg #[.string nm, .int .i64 ver, .slice Tq qs.length cq], .int .i64 i] w fun e_ w' => ∃ b, e_ = .returned (.bool b) ∧ (b = true ↔ (0 ≤ i ∧ i < qs.length)) ∧ Below w.heap.size w w' := by
  refine Fw.calls Try.func25 rfl Try.ntmps25 rfl ?_
  have HB := Below.refl (w.heap.size) w
  refine Fw.seq fun _ hK1 => ?_
  refine Fw.region ?_
  refine Fw.box rfl rfl ?_
  intro w1 gt egt Ht hb
  have lgt : w.heap.size ≤ gt := by have := HB.size; omega
  replace HB := HB.trans (hb.mono HB.size)
  clear hb
  clear egt
  refine Fw.s (Fw.val_assign rfl) rfl ?_
  refine Fw.nil ?_
  refine hK1 _ _ ?_
  refine Fw.seq fun _ hK2 => ?_
  refine Fw.region ?_
  refine Fw.s (Fw.val_move rfl) rfl ?_
  refine Fw.s2 (Fw.val_bin rfl rfl Fw.b_geq) rfl ?_ ?_
  · rintro h1
    refine Fw.s (Fw.val_move rfl) rfl ?_
    refine Fw.gT (d := 7) rfl rfl ?_
    refine Fw.s (Fw.val_move rfl) rfl ?_
    refine Fw.gT (d := 7) rfl rfl ?_
    refine Fw.s (Fw.val_fieldAddr fl24_2 rfl rfl) rfl ?_
    refine Fw.gT (d := 7) rfl rfl ?_
    refine Fw.ld sc22 rfl (Ht.cell 2) rfl ?_
    refine Fw.gT (d := 7) rfl rfl ?_
    refine Fw.s (Fw.val_len Try.underlying22 rfl) rfl ?_
    refine Fw.gT (d := 7) rfl rfl ?_
    refine Fw.s2 (Fw.val_bin rfl rfl Fw.b_lss) rfl ?_ ?_
    · rintro h2
      refine Fw.s (Fw.val_pickT rfl rfl) rfl ?_
      refine Fw.s (Fw.val_assign rfl) rfl ?_
      refine Fw.nil ?_
      refine hK2 _ _ (Fw.FC.sub (f' := [(4, _)]) (.cons rfl .nil) ?_)
      refine Fw.ret ?_
      refine Fw.ret_ [.tmp 4] [_] Try.results25 (.tmp rfl .nil) ?_
      exact ⟨true, rfl, ⟨fun _ => by omega, fun _ => rfl⟩, HB⟩
    · rintro h2
      refine Fw.s (Fw.val_pickT rfl rfl) rfl ?_
      refine Fw.s (Fw.val_assign rfl) rfl ?_
      refine Fw.nil ?_
      refine hK2 _ _ (Fw.FC.sub (f' := [(4, _)]) (.cons rfl .nil) ?_)
      refine Fw.ret ?_
      refine Fw.ret_ [.tmp 4] [_] Try.results25 (.tmp rfl .nil) ?_
      exact ⟨false, rfl, ⟨fun h => Bool.noConfusion h, fun h => by omega⟩, HB⟩
  · rintro h1
    refine Fw.s (Fw.val_move rfl) rfl ?_
    refine Fw.gF (d := 7) rfl rfl rfl rfl ?_
    refine Fw.gF (d := 7) rfl rfl rfl rfl ?_
    refine Fw.gF (d := 7) rfl rfl rfl rfl ?_
    refine Fw.gF (d := 7) rfl rfl rfl rfl ?_
    refine Fw.gF (d := 7) rfl rfl rfl rfl ?_
    refine Fw.s (Fw.val_pickF rfl rfl) rfl ?_
    refine Fw.s (Fw.val_assign rfl) rfl ?_
    refine Fw.nil ?_
    refine hK2 _ _ (Fw.FC.sub (f' := [(4, _)]) (.cons rfl .nil) ?_)
    refine Fw.ret ?_
    refine Fw.ret_ [.tmp 4] [_] Try.results25 (.tmp rfl .nil) ?_
    exact ⟨false, rfl, ⟨fun h => Bool.noConfusion h, fun h => by omega⟩, HB⟩

end Go.Proofs.Ytpoacekefhblhaa
