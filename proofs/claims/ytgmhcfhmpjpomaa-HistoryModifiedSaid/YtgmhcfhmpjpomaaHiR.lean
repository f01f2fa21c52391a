/- Layer 49: the law's run. -/
import Derived.Test.YtgmhcfhmpjpomaaT49
import Derived.Test.YtgmhcfhmpjpomaaHiM
import Derived.Test.YtgmhcfhmpjpomaaHiN
namespace Go.Proofs.Ytgmhcfhmpjpomaa
set_option linter.unusedSimpArgs false
set_option linter.unusedVariables false
open Go.RowKit

namespace Hi
def runL (l : List V) : List V := l.foldl appL []
theorem runL_snoc (l : List V) (k : Nat) (hk : k < l.length) : runL (l.take (k + 1)) = appL (runL (l.take k)) l[k] := by
  unfold runL; rw [List.take_succ_eq_append_getElem hk, List.foldl_append]; rfl
theorem appL_len (l : List V) (v : V) : (appL l v).length ≤ l.length + 1 ∧ l.length ≤ (appL l v).length := by
  unfold appL; split <;> simp
theorem runL_len' : ∀ (l m : List V), (l.foldl appL m).length ≤ m.length + l.length
  | [], m => by simp
  | v :: l, m => by have h1 := runL_len' l (appL m v); have h2 := (appL_len m v).1; simp only [List.foldl_cons, List.length_cons]; omega
theorem runL_len (l : List V) : (runL l).length ≤ l.length := by have := runL_len' l []; simpa [runL] using this
end Hi
theorem ChTo.kp {w w' : World} {B p : Nat} {g : Option Nat} {l l' : List Hi.V} (h : ChAt w B p g l) (ht : ChTo w w' B p g l') : Fw.Kp [62, 30] w w' := by
  obtain ⟨g', _, hc, _⟩ := ht
  obtain ⟨hB, A, c, hb, ho, hg⟩ := h
  refine (Fw.Kp.refl _ w).chg hc fun k t cs fr hk ht e => ?_
  rcases e with rfl | e
  · unfold Blk at hb; rw [hb] at hk; injection hk with hk; injection hk with _ e _; subst e; cases ht
  · subst hg
    rcases ho.2 with ⟨h1, _⟩ | ⟨g2, cap, cur, h1, _, hh, _⟩
    · injection h1 with h1; subst h1; cases e
    · injection h1 with h1; subst h1
      injection e with e; subst e
      rw [hh] at hk; injection hk with hk; injection hk with _ e _; subst e; cases ht
theorem ChTo.below {w w' : World} {B p : Nat} {g : Option Nat} {l l' : List Hi.V} (h : ChAt w B p g l) (ht : ChTo w w' B p g l') (hB : B ≤ w.heap.size) : Below B w w' := by
  obtain ⟨g', _, hc, _⟩ := ht
  refine hc.below (fun k e => ?_) hB
  rcases e with rfl | e
  · exact h.1
  · exact (h.lt.2 k e.symm).2
theorem ChTo.at {w w' : World} {B p : Nat} {g : Option Nat} {l' : List Hi.V} (ht : ChTo w w' B p g l') : ∃ g', ChAt w' B p g' l' := by obtain ⟨g', h, _⟩ := ht; exact ⟨g', h⟩
theorem ChAt.kp {ts : List TypeId} {w w' : World} {B p : Nat} {g : Option Nat} {l : List Hi.V} (h : ChAt w B p g l) (hk : Fw.Kp ts w w') (h1 : ts.contains 62 = false) (h2 : ts.contains 30 = false) : ChAt w' B p g l := by
  obtain ⟨hB, A, c, hb, ho, hg⟩ := h
  exact ⟨hB, A, c, hb.kp hk h1, Fw.own_kp ho hk h2, hg⟩

set_option maxRecDepth 100000 in
theorem run_big (w : World) (A : Option Addr) (l : List Hi.V) (c : Nat) (hl : 60 < l.length) :
    Calls Try.prog 9 #[.slice A l.length c] w fun e w' => e = .returned (.tuple #[.pointer none, .slice none 0 0, .bool true]) ∧ Below w.heap.size w w' := by
  refine Fw.calls Try.func9 rfl Try.ntmps9 rfl ?_
  have HB := Below.refl (w.heap.size) w
  refine Fw.seq fun _ hK1 => ?_
  refine Fw.region ?_
  refine Fw.s (Fw.val_assign rfl) rfl ?_
  refine Fw.s (Fw.val_assign rfl) rfl ?_
  refine Fw.s (Fw.val_assign rfl) rfl ?_
  refine Fw.nil ?_
  refine hK1 _ _ ?_
  refine Fw.seq fun _ hK2 => ?_
  refine Fw.region ?_
  refine Fw.call cf22 rfl rfl (newChain_any _) ?_
  rintro e_ w1 ⟨rfl, HC, hb⟩
  refine ⟨_, rfl, ?_⟩
  replace HB := HB.trans (hb.mono HB.size)
  clear hb
  refine Fw.s (Fw.val_assign rfl) rfl ?_
  refine Fw.s (Fw.val_assign rfl) rfl ?_
  refine Fw.nil ?_
  refine hK2 _ _ ?_
  refine Fw.seq fun _ hK3 => ?_
  refine Fw.region ?_
  refine Fw.s (Fw.val_assign rfl) rfl ?_
  refine Fw.nil ?_
  refine hK3 _ _ ?_
  refine Fw.seq fun _ hK4 => ?_
  refine Fw.seq fun _ hK5 => ?_
  refine Fw.region ?_
  refine Fw.s (Fw.val_move rfl) rfl ?_
  refine Fw.s (Fw.val_bin rfl rfl (Fw.b_nilP Try.underlying23)) rfl ?_
  refine Fw.s (Fw.val_move rfl) rfl ?_
  refine Fw.gT (d := 18) rfl rfl ?_
  refine Fw.s (Fw.val_move rfl) rfl ?_
  refine Fw.gT (d := 18) rfl rfl ?_
  refine Fw.s (Fw.val_len Try.underlying22 rfl) rfl ?_
  refine Fw.gT (d := 18) rfl rfl ?_
  refine Fw.s (Fw.Val.T (Fw.val_bin rfl rfl Fw.b_gtr) (by omega)) rfl ?_
  refine Fw.s (Fw.val_pickF rfl rfl) rfl ?_
  refine Fw.nil ?_
  refine hK5 _ _ (Fw.FC.sub (f' := [(22, _), (7, _), (6, _), (5, _), (0, _)]) (.cons rfl (.cons rfl (.cons rfl (.cons rfl (.cons rfl .nil))))) ?_)
  refine Fw.condT rfl ?_
  refine Fw.seq fun _ hK6 => ?_
  refine Fw.region ?_
  refine Fw.s (Fw.val_move rfl) rfl ?_
  refine Fw.s (Fw.val_assign rfl) rfl ?_
  refine Fw.s (Fw.val_assign rfl) rfl ?_
  refine Fw.s (Fw.val_assign rfl) rfl ?_
  refine Fw.nil ?_
  refine hK6 _ _ ?_
  refine Fw.ret ?_
  refine Fw.X_ret ?_
  refine Fw.ret_ [.tmp 2, .tmp 3, .tmp 4] [_, _, _] Try.results9 (.tmp rfl (.tmp rfl (.tmp rfl .nil))) ?_
  exact ⟨rfl, HB⟩

set_option maxRecDepth 100000 in
theorem run_any (w : World) (A : Option Addr) (l : List Hi.V) (c : Nat) (h : Rd w A (Hi.vals l)) (hl : l.length ≤ 60) :
    Calls Try.prog 9 #[.slice A l.length c] w fun e w' => ∃ A' c' g, e = .returned (.tuple #[.pointer (some ⟨w.heap.size, 0, none⟩), .slice A' (Hi.runL l).length c', .bool true]) ∧ ChAt w' w.heap.size w.heap.size g (Hi.runL l) ∧ Fw.RdT w' 33 A' (Hi.vals (Hi.runL l)) ∧ Below w.heap.size w w' := by
  refine Fw.calls Try.func9 rfl Try.ntmps9 rfl ?_
  have HB := Below.refl (w.heap.size) w
  refine Fw.seq fun _ hK1 => ?_
  refine Fw.region ?_
  refine Fw.s (Fw.val_assign rfl) rfl ?_
  refine Fw.s (Fw.val_assign rfl) rfl ?_
  refine Fw.s (Fw.val_assign rfl) rfl ?_
  refine Fw.nil ?_
  refine hK1 _ _ ?_
  refine Fw.seq fun _ hK2 => ?_
  refine Fw.region ?_
  refine Fw.call cf22 rfl rfl (newChain_any _) ?_
  rintro e_ w1 ⟨rfl, HC, hb⟩
  refine ⟨_, rfl, ?_⟩
  replace HB := HB.trans (hb.mono HB.size)
  clear hb
  refine Fw.s (Fw.val_assign rfl) rfl ?_
  refine Fw.s (Fw.val_assign rfl) rfl ?_
  refine Fw.nil ?_
  refine hK2 _ _ ?_
  refine Fw.seq fun _ hK3 => ?_
  refine Fw.region ?_
  refine Fw.s (Fw.val_assign rfl) rfl ?_
  refine Fw.nil ?_
  refine hK3 _ _ ?_
  refine Fw.seq fun _ hK4 => ?_
  refine Fw.seq fun _ hK5 => ?_
  refine Fw.region ?_
  refine Fw.s (Fw.val_move rfl) rfl ?_
  refine Fw.s (Fw.val_bin rfl rfl (Fw.b_nilP Try.underlying23)) rfl ?_
  refine Fw.s (Fw.val_move rfl) rfl ?_
  refine Fw.gT (d := 18) rfl rfl ?_
  refine Fw.s (Fw.val_move rfl) rfl ?_
  refine Fw.gT (d := 18) rfl rfl ?_
  refine Fw.s (Fw.val_len Try.underlying22 rfl) rfl ?_
  refine Fw.gT (d := 18) rfl rfl ?_
  refine Fw.s (Fw.Val.F (Fw.val_bin rfl rfl Fw.b_gtr) (by omega)) rfl ?_
  refine Fw.s (Fw.val_pickF rfl rfl) rfl ?_
  refine Fw.nil ?_
  refine hK5 _ _ (Fw.FC.sub (f' := [(22, _), (7, _), (6, _), (5, _), (0, _)]) (.cons rfl (.cons rfl (.cons rfl (.cons rfl (.cons rfl .nil))))) ?_)
  refine Fw.condF rfl ?_
  refine Fw.skip ?_
  refine hK4 _ _ ?_
  refine Fw.seq fun _ hK6 => ?_
  refine Fw.seq fun _ hK7 => ?_
  refine Fw.region ?_
  refine Fw.s (Fw.val_move rfl) rfl ?_
  refine Fw.s (Fw.val_len Try.underlying22 rfl) rfl ?_
  refine Fw.s (Fw.val_move rfl) rfl ?_
  refine Fw.nil ?_
  refine hK7 _ _ ?_
  refine Fw.block ?_
  have HM : Fw.RdT w1 33 none (Hi.vals (Hi.runL (l.take 0))) := Fw.RdT.nil _ _
  replace HC : ChAt w1 w.heap.size w.heap.size none (Hi.runL (l.take 0)) := HC
  refine Fw.loop (fun m_ f_ W_ => ∃ (k : Nat) (g_ : Option Nat) (A_ : Option Addr) (c_ : Nat), m_ = l.length - k ∧ k ≤ l.length ∧ ChAt W_ w.heap.size w.heap.size g_ (Hi.runL (l.take k)) ∧ Fw.RdT W_ 33 A_ (Hi.vals (Hi.runL (l.take k))) ∧ Below (w.heap.size) w W_ ∧ f_ = [(26, .int .i64 k), (25, .int .i64 l.length), (24, .slice A l.length c), (7, .slice A_ (Hi.runL (l.take k)).length c_), (6, .bool true), (5, .pointer (some ⟨w.heap.size, 0, none⟩))]) ⟨_, _, ⟨0, none, none, 0, rfl, Nat.zero_le _, HC, HM, HB, rfl⟩, (.cons rfl (.cons rfl (.cons rfl (.cons rfl (.cons rfl (.cons rfl .nil))))))⟩ ?_
  clear HC HM HB
  rintro m8_ _ w2 ⟨k, g_, A_, c_, hm8_, hkl, HC, HM, HB, rfl⟩
  refine Fw.seq fun _ hK9 => ?_
  refine Fw.region ?_
  refine Fw.s2 (Fw.val_bin rfl rfl Fw.b_lss) rfl ?_ ?_
  · rintro hk
    refine Fw.nil ?_
    refine hK9 _ _ ?_
    refine Fw.seq fun _ hK11 => ?_
    refine Fw.condT rfl ?_
    refine Fw.skip ?_
    refine hK11 _ _ ?_
    refine Fw.seq fun _ hK12 => ?_
    refine Fw.block ?_
    refine Fw.seq fun _ hK13 => ?_
    have hkn : k < l.length := by omega
    have hq0 := Hi.runL_len (l.take k)
    have hq1 := (Hi.appL_len (Hi.runL (l.take k)) l[k]).1
    have hq2 : (l.take k).length ≤ k := by rw [List.length_take]; omega
    refine Fw.region ?_
    obtain ⟨ad, b, o, hA, hadd, HE⟩ := Fw.rdAt Hi.cells_len (by decide) (h.low HB) k hkn
    refine Fw.s (Fw.val_indexR Try.underlying22 sz33 rfl hA rfl rfl hkn hadd) rfl ?_
    refine Fw.ldA ag33 rfl (HE) rfl rfl ?_
    refine Fw.alloc ze33 rfl ?_
    intro w3 gX9 egX9 HX9 hb
    have hmf := Fw.RdT.fresh HM egX9
    have lgX9 : w.heap.size ≤ gX9 := by have := HB.size; omega
    clear HE
    replace HC := HC.low hb
    replace HM := HM.low hb
    replace HB := HB.trans (hb.mono HB.size)
    clear hb
    clear egX9
    refine Fw.storeW sz33 rfl rfl HX9 rfl rfl (by exact Fw.oneCells rfl) ?_
    intro w4 N_ hc
    replace HC := HC.kp ((Fw.Kp.refl [33] _).one hc HX9 rfl) rfl rfl
    replace HM := HM.chg hc hmf
    replace HB := HB.trans (hc.below (B := w.heap.size) (fun k e => by omega) HB.size)
    clear hc
    clear HX9
    have HX9 := N_
    clear N_
    refine Fw.nil ?_
    refine hK13 _ _ ?_
    refine Fw.seq fun _ hK15 => ?_
    refine Fw.region ?_
    refine Fw.s (Fw.val_move rfl) rfl ?_
    refine Fw.s (Fw.val_fieldAddr fl33_0 rfl rfl) rfl ?_
    refine Fw.ld sc2 rfl (HX9.cell 0) rfl ?_
    refine Fw.s (Fw.val_fieldAddr fl33_1 rfl rfl) rfl ?_
    refine Fw.ld sc2 rfl (HX9.cell 1) rfl ?_
    refine Fw.s (Fw.val_fieldAddr fl33_2 rfl rfl) rfl ?_
    refine Fw.ld sc28 rfl (HX9.cell 2) rfl ?_
    refine Fw.s (Fw.val_fieldAddr fl33_3 rfl rfl) rfl ?_
    refine Fw.ld sc28 rfl (HX9.cell 3) rfl ?_
    refine Fw.call cf21 rfl rfl (append_any _ w.heap.size w.heap.size g_ (Hi.runL (l.take k)) l[k] HC (by omega)) ?_
    rintro e_ w5 ⟨rfl, ht⟩
    refine ⟨_, rfl, ?_⟩
    have hkp := ChTo.kp HC ht
    replace HB := HB.trans (ChTo.below HC ht HB.size)
    clear HC
    obtain ⟨g2, HC⟩ := ht.at
    clear ht
    replace HM := HM.kp hkp rfl
    replace HX9 := HX9.kp hkp rfl
    clear hkp
    refine Fw.s (Fw.val_move rfl) rfl ?_
    refine Fw.s (Fw.val_extract rfl rfl) rfl ?_
    refine Fw.s (Fw.val_extract rfl rfl) rfl ?_
    refine Fw.s (Fw.val_assign rfl) rfl ?_
    refine Fw.s (Fw.val_assign rfl) rfl ?_
    refine Fw.nil ?_
    refine hK15 _ _ (Fw.FC.sub (f' := [(11, _), (10, _), (9, _), (26, _), (25, _), (24, _), (7, _), (6, _), (5, _)]) (.cons rfl (.cons rfl (.cons rfl (.cons rfl (.cons rfl (.cons rfl (.cons rfl (.cons rfl (.cons rfl .nil))))))))) ?_)
    refine Fw.seq fun _ hK16 => ?_
    refine Fw.region ?_
    refine Fw.s (Fw.val_move rfl) rfl ?_
    refine Fw.ldA ag33 rfl (Fw.rdBlk HX9) rfl rfl ?_
    refine Fw.call cf23 rfl rfl (add_any _ A_ (Hi.runL (l.take k)) c_ l[k] HM (by omega)) ?_
    rintro e_ w6 ⟨A', c', rfl, HM', hb⟩
    refine ⟨_, rfl, ?_⟩
    replace HC := HC.low hb
    replace HM := HM.low hb
    replace HX9 := HX9.low hb
    replace HB := HB.trans (hb.mono HB.size)
    clear hb
    clear HM
    have HM := HM'
    clear HM'
    refine Fw.s (Fw.val_move rfl) rfl ?_
    refine Fw.s (Fw.val_extract rfl rfl) rfl ?_
    refine Fw.s (Fw.val_extract rfl rfl) rfl ?_
    refine Fw.s (Fw.val_extract rfl rfl) rfl ?_
    refine Fw.s (Fw.val_assign rfl) rfl ?_
    refine Fw.s (Fw.val_assign rfl) rfl ?_
    refine Fw.s (Fw.val_assign rfl) rfl ?_
    refine Fw.nil ?_
    refine hK16 _ _ (Fw.FC.sub (f' := [(14, _), (13, _), (12, _), (11, _), (10, _), (26, _), (25, _), (24, _), (6, _), (5, _)]) (.cons rfl (.cons rfl (.cons rfl (.cons rfl (.cons rfl (.cons rfl (.cons rfl (.cons rfl (.cons rfl (.cons rfl .nil)))))))))) ?_)
    refine Fw.seq fun _ hK17 => ?_
    refine Fw.region ?_
    refine Fw.s (Fw.val_move rfl) rfl ?_
    refine Fw.s (Fw.val_assign rfl) rfl ?_
    refine Fw.nil ?_
    refine hK17 _ _ ?_
    refine Fw.region ?_
    refine Fw.s (Fw.val_move rfl) rfl ?_
    refine Fw.s (Fw.val_move rfl) rfl ?_
    refine Fw.gT (d := 52) rfl rfl ?_
    refine Fw.s (Fw.val_move rfl) rfl ?_
    refine Fw.gT (d := 52) rfl rfl ?_
    refine Fw.s (Fw.val_move rfl) rfl ?_
    refine Fw.gT (d := 52) rfl rfl ?_
    refine Fw.s (Fw.Val.T (Fw.val_bin rfl rfl Fw.b_eql) (by rfl)) rfl ?_
    refine Fw.s (Fw.val_pickT rfl rfl) rfl ?_
    refine Fw.s (Fw.val_move rfl) rfl ?_
    refine Fw.gT (d := 57) rfl rfl ?_
    refine Fw.s (Fw.val_move rfl) rfl ?_
    refine Fw.gT (d := 57) rfl rfl ?_
    refine Fw.s (Fw.val_move rfl) rfl ?_
    refine Fw.gT (d := 57) rfl rfl ?_
    refine Fw.s (Fw.Val.T (Fw.val_bin rfl rfl Fw.b_eql) (by rfl)) rfl ?_
    refine Fw.s (Fw.val_pickT rfl rfl) rfl ?_
    refine Fw.s (Fw.val_move rfl) rfl ?_
    refine Fw.gT (d := 62) rfl rfl ?_
    refine Fw.s (Fw.val_move rfl) rfl ?_
    refine Fw.gT (d := 62) rfl rfl ?_
    refine Fw.call cf20 rfl rfl (all_any _ w.heap.size w.heap.size g2 (Hi.appL (Hi.runL (l.take k)) l[k]) HC (by omega)) ?_
    rintro e_ w7 ⟨A2, c2, rfl, HO2, hb⟩
    refine ⟨_, rfl, ?_⟩
    replace HC := HC.low hb
    replace HM := HM.low hb
    replace HX9 := HX9.low hb
    replace HB := HB.trans (hb.mono HB.size)
    clear hb
    refine Fw.gT (d := 62) rfl rfl ?_
    refine Fw.call cf14 rfl rfl (back_any _ A2 (Hi.appL (Hi.runL (l.take k)) l[k]) c2 (Rd.of_own HO2) (by omega)) ?_
    rintro e_ w8 ⟨A3, c3, rfl, HO3, hb⟩
    refine ⟨_, rfl, ?_⟩
    replace HC := HC.low hb
    replace HM := HM.low hb
    replace HX9 := HX9.low hb
    replace HB := HB.trans (hb.mono HB.size)
    clear hb
    refine Fw.gT (d := 62) rfl rfl ?_
    refine Fw.s (Fw.val_move rfl) rfl ?_
    refine Fw.gT (d := 62) rfl rfl ?_
    refine Fw.call cf13 rfl rfl (rsame_any _ A3 (Hi.appL (Hi.runL (l.take k)) l[k]) c3 A' (Hi.appL (Hi.runL (l.take k)) l[k]) c' (Rd.of_own HO3) HM.1 (by omega) (by omega)) ?_
    rintro e_ w9 ⟨rfl, hb⟩
    refine ⟨_, rfl, ?_⟩
    replace HC := HC.low hb
    replace HM := HM.low hb
    replace HX9 := HX9.low hb
    replace HB := HB.trans (hb.mono HB.size)
    clear hb
    refine Fw.bT (by rw [Hi.apart_same]; rfl) ?_
    refine Fw.s (Fw.val_pickT rfl rfl) rfl ?_
    refine Fw.s (Fw.val_assign rfl) rfl ?_
    refine Fw.nil ?_
    refine Fw.X_blockN ?_
    refine hK12 _ _ (Fw.FC.sub (f' := [(6, _), (67, _), (66, _), (65, _), (64, _), (63, _), (60, _), (59, _), (58, _), (55, _), (54, _), (53, _), (7, _), (26, _), (25, _), (24, _), (5, _)]) (.cons rfl (.cons rfl (.cons rfl (.cons rfl (.cons rfl (.cons rfl (.cons rfl (.cons rfl (.cons rfl (.cons rfl (.cons rfl (.cons rfl (.cons rfl (.cons rfl (.cons rfl (.cons rfl (.cons rfl .nil))))))))))))))))) ?_)
    rw [← Hi.runL_snoc l k hkn] at HC HM ⊢
    refine Fw.region ?_
    refine Fw.s (Fw.val_bin rfl rfl (Fw.b_add (Fw.i64_ok (by omega)))) rfl ?_
    refine Fw.s (Fw.val_move rfl) rfl ?_
    refine Fw.nil ?_
    refine Fw.roundEnd _ _ (by omega) ⟨k + 1, g2, A', c', rfl, hkn, HC, HM, HB, rfl⟩ (.cons rfl (.cons rfl (.cons rfl (.cons rfl (.cons rfl (.cons rfl .nil))))))
  · rintro hk
    refine Fw.nil ?_
    refine hK9 _ _ ?_
    refine Fw.seq fun _ hK18 => ?_
    refine Fw.condF rfl ?_
    refine Fw.exit ?_
    refine Fw.X_exit ?_
    refine Fw.X_exit ?_
    refine Fw.X_block ?_
    refine hK6 _ _ ?_
    refine Fw.seq fun _ hK19 => ?_
    obtain rfl : k = l.length := by omega
    rw [List.take_length] at HC HM ⊢
    refine Fw.region ?_
    refine Fw.s (Fw.val_move rfl) rfl ?_
    refine Fw.s (Fw.val_move rfl) rfl ?_
    refine Fw.s (Fw.val_move rfl) rfl ?_
    refine Fw.s (Fw.val_assign rfl) rfl ?_
    refine Fw.s (Fw.val_assign rfl) rfl ?_
    refine Fw.s (Fw.val_assign rfl) rfl ?_
    refine Fw.nil ?_
    refine hK19 _ _ (Fw.FC.sub (f' := [(4, _), (3, _), (2, _)]) (.cons rfl (.cons rfl (.cons rfl .nil))) ?_)
    refine Fw.ret ?_
    refine Fw.ret_ [.tmp 2, .tmp 3, .tmp 4] [_, _, _] Try.results9 (.tmp rfl (.tmp rfl (.tmp rfl .nil))) ?_
    exact ⟨_, _, _, rfl, HC, HM, HB⟩
end Go.Proofs.Ytgmhcfhmpjpomaa
