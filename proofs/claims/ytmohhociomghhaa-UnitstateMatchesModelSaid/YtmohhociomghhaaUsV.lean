/- Layer 27: Quiet, New, Seal. -/
import Derived.Test.YtmohhociomghhaaUsT
import Derived.Test.YtmohhociomghhaaCkT
namespace Go.Proofs.Ytmohhociomghhaa
set_option linter.unusedSimpArgs false
set_option linter.unusedVariables false
open Go.RowKit

set_option maxRecDepth 100000 in
set_option maxHeartbeats 1000000 in
theorem rquiet_any (w : World) (A : Option Addr) (l : List Us.U) (c : Nat) (now n e : Int) (h : Fw.RdT w 40 A (l.flatMap Us.U.cells)) (hw : Us.Wf l) (hl : l.length ≤ 256) : Calls Try.prog 38 #[.slice A l.length c, .int .i64 now, .int .i64 n, .int .i64 e] w fun e_ w' => ∃ A' c' A2 c2, e_ = .returned (.tuple #[.slice A' (Us.quietL l now n e).length c', .slice A2 (Us.quietW l now n e).length c2]) ∧ Fw.RdT w' 40 A' ((Us.quietL l now n e).flatMap Us.U.cells) ∧ w'.ownsRow w.heap.size 3 1 (.slice A2 (Us.quietW l now n e).length c2) (Us.quietW l now n e).length ((Us.quietW l now n e).map (.int .i64)) ∧ Below w.heap.size w w' := by
  refine Fw.calls Try.func38 rfl Try.ntmps38 rfl ?_
  have HB := Below.refl (w.heap.size) w
  refine Fw.seq fun _ hK1 => ?_
  refine Fw.region ?_
  refine Fw.s (Fw.val_assign rfl) rfl ?_
  refine Fw.s (Fw.val_assign rfl) rfl ?_
  refine Fw.nil ?_
  refine hK1 _ _ ?_
  refine Fw.seq fun _ hK2 => ?_
  refine Fw.seq fun _ hK3 => ?_
  refine Fw.region ?_
  refine Fw.s (Fw.val_move rfl) rfl ?_
  refine Fw.s2 (Fw.val_bin rfl rfl Fw.b_lss) rfl ?_ ?_
  · rintro t1
    refine Fw.s (Fw.val_move rfl) rfl ?_
    refine Fw.gF (d := 17) rfl rfl rfl rfl ?_
    refine Fw.gF (d := 17) rfl rfl rfl rfl ?_
    refine Fw.s (Fw.val_pickT rfl rfl) rfl ?_
    refine Fw.s (Fw.val_move rfl) rfl ?_
    refine Fw.gF (d := 21) rfl rfl rfl rfl ?_
    refine Fw.gF (d := 21) rfl rfl rfl rfl ?_
    refine Fw.s (Fw.val_pickT rfl rfl) rfl ?_
    refine Fw.nil ?_
    refine hK3 _ _ (Fw.FC.sub (f' := [(24, _), (0, _), (1, _), (2, _), (3, _)]) (.cons rfl (.cons rfl (.cons rfl (.cons rfl (.cons rfl .nil))))) ?_)
    refine Fw.condT rfl ?_
    refine Fw.seq fun _ hK5 => ?_
    refine Fw.region ?_
    refine Fw.s (Fw.val_move rfl) rfl ?_
    refine Fw.s (Fw.val_assign rfl) rfl ?_
    refine Fw.s (Fw.val_assign rfl) rfl ?_
    refine Fw.nil ?_
    refine hK5 _ _ ?_
    refine Fw.ret ?_
    refine Fw.X_ret ?_
    refine Fw.ret_ [.tmp 8, .tmp 9] [_, _] Try.results38 (.tmp rfl (.tmp rfl .nil)) ?_
    have ok : Us.quietOk l now n e = false := by unfold Us.quietOk; rw [decide_eq_false (by omega)]; rfl
    rw [show Us.quietW l now n e = [] by unfold Us.quietW; rw [ok]; rfl, show Us.quietL l now n e = l by unfold Us.quietL; rw [ok]; rfl]
    exact ⟨_, _, none, 0, rfl, h.low HB, ⟨rfl, .inl ⟨rfl, rfl⟩⟩, HB⟩
  · rintro t1
    refine Fw.s (Fw.val_move rfl) rfl ?_
    refine Fw.gT (d := 17) rfl rfl ?_
    refine Fw.s (Fw.val_move rfl) rfl ?_
    refine Fw.gT (d := 17) rfl rfl ?_
    refine Fw.s2 (Fw.val_bin rfl rfl Fw.b_lss) rfl ?_ ?_
    · rintro t2
      refine Fw.s (Fw.val_pickF rfl rfl) rfl ?_
      refine Fw.s (Fw.val_move rfl) rfl ?_
      refine Fw.gF (d := 21) rfl rfl rfl rfl ?_
      refine Fw.gF (d := 21) rfl rfl rfl rfl ?_
      refine Fw.s (Fw.val_pickT rfl rfl) rfl ?_
      refine Fw.nil ?_
      refine hK3 _ _ (Fw.FC.sub (f' := [(24, _), (0, _), (1, _), (2, _), (3, _)]) (.cons rfl (.cons rfl (.cons rfl (.cons rfl (.cons rfl .nil))))) ?_)
      refine Fw.condT rfl ?_
      refine Fw.seq fun _ hK7 => ?_
      refine Fw.region ?_
      refine Fw.s (Fw.val_move rfl) rfl ?_
      refine Fw.s (Fw.val_assign rfl) rfl ?_
      refine Fw.s (Fw.val_assign rfl) rfl ?_
      refine Fw.nil ?_
      refine hK7 _ _ ?_
      refine Fw.ret ?_
      refine Fw.X_ret ?_
      refine Fw.ret_ [.tmp 8, .tmp 9] [_, _] Try.results38 (.tmp rfl (.tmp rfl .nil)) ?_
      have ok : Us.quietOk l now n e = false := by unfold Us.quietOk; rw [show Us.tickB now = false from decide_eq_false (by omega)]; simp
      rw [show Us.quietW l now n e = [] by unfold Us.quietW; rw [ok]; rfl, show Us.quietL l now n e = l by unfold Us.quietL; rw [ok]; rfl]
      exact ⟨_, _, none, 0, rfl, h.low HB, ⟨rfl, .inl ⟨rfl, rfl⟩⟩, HB⟩
    · rintro t2
      refine Fw.s (Fw.val_pickF rfl rfl) rfl ?_
      refine Fw.s (Fw.val_move rfl) rfl ?_
      refine Fw.gT (d := 21) rfl rfl ?_
      refine Fw.s (Fw.val_move rfl) rfl ?_
      refine Fw.gT (d := 21) rfl rfl ?_
      refine Fw.s2 (Fw.val_bin rfl rfl Fw.b_gtr) rfl ?_ ?_
      · rintro t3
        refine Fw.s (Fw.val_pickF rfl rfl) rfl ?_
        refine Fw.nil ?_
        refine hK3 _ _ (Fw.FC.sub (f' := [(24, _), (0, _), (1, _), (2, _), (3, _)]) (.cons rfl (.cons rfl (.cons rfl (.cons rfl (.cons rfl .nil))))) ?_)
        refine Fw.condT rfl ?_
        refine Fw.seq fun _ hK9 => ?_
        refine Fw.region ?_
        refine Fw.s (Fw.val_move rfl) rfl ?_
        refine Fw.s (Fw.val_assign rfl) rfl ?_
        refine Fw.s (Fw.val_assign rfl) rfl ?_
        refine Fw.nil ?_
        refine hK9 _ _ ?_
        refine Fw.ret ?_
        refine Fw.X_ret ?_
        refine Fw.ret_ [.tmp 8, .tmp 9] [_, _] Try.results38 (.tmp rfl (.tmp rfl .nil)) ?_
        have ok : Us.quietOk l now n e = false := by unfold Us.quietOk; rw [show Us.tickB now = false from decide_eq_false (by omega)]; simp
        rw [show Us.quietW l now n e = [] by unfold Us.quietW; rw [ok]; rfl, show Us.quietL l now n e = l by unfold Us.quietL; rw [ok]; rfl]
        exact ⟨_, _, none, 0, rfl, h.low HB, ⟨rfl, .inl ⟨rfl, rfl⟩⟩, HB⟩
      · rintro t3
        refine Fw.s (Fw.val_pickF rfl rfl) rfl ?_
        refine Fw.nil ?_
        refine hK3 _ _ (Fw.FC.sub (f' := [(24, _), (0, _), (1, _), (2, _), (3, _)]) (.cons rfl (.cons rfl (.cons rfl (.cons rfl (.cons rfl .nil))))) ?_)
        refine Fw.condF rfl ?_
        refine Fw.skip ?_
        refine hK2 _ _ ?_
        refine Fw.seq fun _ hK10 => ?_
        refine Fw.seq fun _ hK11 => ?_
        refine Fw.region ?_
        refine Fw.s (Fw.val_assign rfl) rfl ?_
        refine Fw.nil ?_
        refine hK11 _ _ ?_
        refine Fw.block ?_
        refine Fw.loop (fun m_ f_ W_ => ∃ (k : Nat), m_ = l.length - k ∧ k ≤ l.length ∧ (l.take k).all (fun u => Us.epB u e) = true ∧ Below (w.heap.size) w W_ ∧ f_ = [(10, .int .i64 k), (0, .slice A l.length c), (1, .int .i64 now), (2, .int .i64 n), (3, .int .i64 e)]) ⟨_, _, ⟨0, rfl, Nat.zero_le _, rfl, HB, rfl⟩, (.cons rfl (.cons rfl (.cons rfl (.cons rfl (.cons rfl .nil)))))⟩ ?_
        clear HB
        rintro m12_ _ w1 ⟨k, hm12_, hkl, hall, HB, rfl⟩
        refine Fw.seq fun _ hK13 => ?_
        refine Fw.seq fun _ hK14 => ?_
        refine Fw.region ?_
        refine Fw.s (Fw.val_move rfl) rfl ?_
        refine Fw.s (Fw.val_move rfl) rfl ?_
        refine Fw.s (Fw.val_len Try.underlying28 rfl) rfl ?_
        refine Fw.s2 (Fw.val_bin rfl rfl Fw.b_lss) rfl ?_ ?_
        · rintro hk
          refine Fw.nil ?_
          refine hK14 _ _ ?_
          refine Fw.condT rfl ?_
          refine Fw.skip ?_
          refine hK13 _ _ ?_
          refine Fw.seq fun _ hK16 => ?_
          refine Fw.block ?_
          refine Fw.seq fun _ hK17 => ?_
          have hkn : k < l.length := by omega
          obtain ⟨ad, b_, o, hA, hadd, HE⟩ := Fw.rdAt Us.U.len (by decide) (h.1.low HB) k hkn
          refine Fw.region ?_
          refine Fw.s (Fw.val_move rfl) rfl ?_
          refine Fw.s (Fw.val_move rfl) rfl ?_
          refine Fw.s (Fw.val_indexR Try.underlying28 sz40 rfl hA rfl rfl hkn hadd) rfl ?_
          refine Fw.ldA ag40 rfl (HE) rfl rfl ?_
          refine Fw.s (Fw.val_move rfl) rfl ?_
          refine Fw.call cf52 rfl rfl (rright_any l[k] e _) ?_
          rintro e_ w2 ⟨rfl, hb⟩
          refine ⟨_, rfl, ?_⟩
          clear HE
          replace HB := HB.trans (hb.mono HB.size)
          clear hb
          refine Fw.b2 ?_ ?_
          · rintro hep
            refine Fw.s (Fw.val_not rfl) rfl ?_
            refine Fw.nil ?_
            refine hK17 _ _ (Fw.FC.sub (f' := [(38, _), (10, _), (0, _), (1, _), (2, _), (3, _)]) (.cons rfl (.cons rfl (.cons rfl (.cons rfl (.cons rfl (.cons rfl .nil)))))) ?_)
            refine Fw.condF rfl ?_
            refine Fw.skip ?_
            refine Fw.X_blockN ?_
            refine hK16 _ _ ?_
            refine Fw.region ?_
            refine Fw.s (Fw.val_move rfl) rfl ?_
            refine Fw.s (Fw.val_bin rfl rfl (Fw.b_add (Fw.i64_ok (by omega)))) rfl ?_
            refine Fw.s (Fw.val_assign rfl) rfl ?_
            refine Fw.nil ?_
            refine Fw.roundEnd _ _ (by omega) ⟨k + 1, rfl, hkn, by rw [Us.all_snoc _ _ _ hkn, hall, hep]; rfl, HB, rfl⟩ (.cons rfl (.cons rfl (.cons rfl (.cons rfl (.cons rfl .nil)))))
          · rintro hep
            refine Fw.s (Fw.val_not rfl) rfl ?_
            refine Fw.nil ?_
            refine hK17 _ _ (Fw.FC.sub (f' := [(38, _), (10, _), (0, _), (1, _), (2, _), (3, _)]) (.cons rfl (.cons rfl (.cons rfl (.cons rfl (.cons rfl (.cons rfl .nil)))))) ?_)
            refine Fw.condT rfl ?_
            refine Fw.seq fun _ hK19 => ?_
            refine Fw.region ?_
            refine Fw.s (Fw.val_move rfl) rfl ?_
            refine Fw.s (Fw.val_assign rfl) rfl ?_
            refine Fw.s (Fw.val_assign rfl) rfl ?_
            refine Fw.nil ?_
            refine hK19 _ _ (Fw.FC.sub (f' := [(9, _), (8, _)]) (.cons rfl (.cons rfl .nil)) ?_)
            refine Fw.ret ?_
            refine Fw.X_blockR ?_
            refine Fw.X_ret ?_
            refine Fw.X_ret ?_
            refine Fw.X_blockR ?_
            refine Fw.X_ret ?_
            refine Fw.ret_ [.tmp 8, .tmp 9] [_, _] Try.results38 (.tmp rfl (.tmp rfl .nil)) ?_
            have ok : Us.quietOk l now n e = false := by
              unfold Us.quietOk; rw [show (l.all fun u => Us.epB u e) = false from by
                rw [List.all_eq_false]; exact ⟨l[k], List.getElem_mem hkn, by rw [hep]; decide⟩]; simp
            rw [show Us.quietW l now n e = [] by unfold Us.quietW; rw [ok]; rfl, show Us.quietL l now n e = l by unfold Us.quietL; rw [ok]; rfl]
            exact ⟨_, _, none, 0, rfl, h.low HB, ⟨rfl, .inl ⟨rfl, rfl⟩⟩, HB⟩
        · rintro hk
          refine Fw.nil ?_
          refine hK14 _ _ ?_
          refine Fw.condF rfl ?_
          refine Fw.exit ?_
          refine Fw.X_exit ?_
          refine Fw.X_exit ?_
          refine Fw.X_block ?_
          refine hK10 _ _ ?_
          refine Fw.seq fun _ hK20 => ?_
          have hkE : k = l.length := by omega
          clear hkl
          subst hkE
          rw [List.take_length] at hall
          have hok : Us.quietOk l now n e = true := by unfold Us.quietOk; rw [hall, decide_eq_true (show 1 ≤ n by omega), show Us.tickB now = true from decide_eq_true (by omega)]; rfl
          refine Fw.region ?_
          refine Fw.s (Fw.val_assign rfl) rfl ?_
          refine Fw.nil ?_
          refine hK20 _ _ ?_
          refine Fw.seq fun _ hK21 => ?_
          refine Fw.region ?_
          refine Fw.s (Fw.val_move rfl) rfl ?_
          refine Fw.s (Fw.val_assign rfl) rfl ?_
          refine Fw.nil ?_
          refine hK21 _ _ ?_
          refine Fw.seq fun _ hK22 => ?_
          refine Fw.seq fun _ hK23 => ?_
          refine Fw.region ?_
          refine Fw.s (Fw.val_assign rfl) rfl ?_
          refine Fw.nil ?_
          refine hK23 _ _ ?_
          refine Fw.block ?_
          have HN : w1.ownsRow w.heap.size 3 1 (.slice none ([] : List Int).length 0) ([] : List Int).length (([] : List Int).map (.int .i64)) := ⟨rfl, .inl ⟨rfl, rfl⟩⟩
          have HM : Fw.RdT w1 40 A ((Fw.mix (l.map (fun u : Us.U => Us.quietU u now n e)) l 0).flatMap Us.U.cells) := by rw [Fw.mix_zero]; exact h.low HB
          refine Fw.loop (fun m_ f_ W_ => ∃ (k : Nat) (r_ : List Int) (A_ : Option Addr) (c_ : Nat) (B_ : Option Addr) (d_ : Nat), m_ = l.length - k ∧ k ≤ l.length ∧ r_ = Us.idx (fun u => Us.late u now n) (l.take k) ∧ W_.ownsRow w.heap.size 3 1 (.slice B_ r_.length d_) r_.length (r_.map (.int .i64)) ∧ Fw.RdT W_ 40 A_ ((Fw.mix (l.map (fun u : Us.U => Us.quietU u now n e)) l k).flatMap Us.U.cells) ∧ Below (w.heap.size) w W_ ∧ f_ = [(13, .int .i64 k), (12, .slice A_ l.length c_), (11, .slice B_ r_.length d_), (0, .slice A l.length c), (1, .int .i64 now), (2, .int .i64 n), (3, .int .i64 e)]) ⟨_, _, ⟨0, [], A, c, none, 0, rfl, Nat.zero_le _, rfl, HN, HM, HB, rfl⟩, (.cons rfl (.cons rfl (.cons rfl (.cons rfl (.cons rfl (.cons rfl (.cons rfl .nil)))))))⟩ ?_
          clear HN HM HB
          rintro m24_ _ w3 ⟨k, r_, A_, c_, B_, d_, hm24_, hkl, hr, HN, HM, HB, rfl⟩
          refine Fw.seq fun _ hK25 => ?_
          refine Fw.seq fun _ hK26 => ?_
          refine Fw.region ?_
          refine Fw.s (Fw.val_move rfl) rfl ?_
          refine Fw.s (Fw.val_move rfl) rfl ?_
          refine Fw.s (Fw.val_len Try.underlying28 rfl) rfl ?_
          refine Fw.s2 (Fw.val_bin rfl rfl Fw.b_lss) rfl ?_ ?_
          · rintro hk2
            refine Fw.nil ?_
            refine hK26 _ _ ?_
            refine Fw.condT rfl ?_
            refine Fw.skip ?_
            refine hK25 _ _ ?_
            refine Fw.seq fun _ hK28 => ?_
            refine Fw.block ?_
            refine Fw.seq fun _ hK29 => ?_
            have hkn : k < l.length := by omega
            obtain ⟨ad, b_, o, hA, hadd, HE⟩ := Fw.rdAt Us.U.len (by decide) (h.1.low HB) k hkn
            refine Fw.region ?_
            refine Fw.s (Fw.val_move rfl) rfl ?_
            refine Fw.s (Fw.val_move rfl) rfl ?_
            refine Fw.s (Fw.val_indexR Try.underlying28 sz40 rfl hA rfl rfl hkn hadd) rfl ?_
            refine Fw.ldA ag40 rfl (HE) rfl rfl ?_
            refine Fw.alloc ze40 rfl ?_
            intro w4 gX14 egX14 HX14 hb
            have fr_HM_gX14 := Fw.RdT.fresh HM egX14
            have lgX14 : w.heap.size ≤ gX14 := by have := HB.size; omega
            clear HE
            replace HN := own_below HN hb (Nat.le_refl _)
            replace HM := HM.low hb
            replace HB := HB.trans (hb.mono HB.size)
            clear hb
            clear egX14
            refine Fw.storeW sz40 rfl rfl HX14 rfl rfl (by exact Fw.oneCells rfl) ?_
            intro w5 N_ hc
            replace HN := own_to HN hc (fun g_ h_ e_ => own_ne HN HX14 (by decide) (by rw [h_, e_]))
            replace HM := HM.chg hc fr_HM_gX14
            replace HB := HB.trans (hc.below (B := w.heap.size) (fun k e => by omega) HB.size)
            clear hc
            clear HX14
            have HX14 := N_
            clear N_
            refine Fw.nil ?_
            refine hK29 _ _ (Fw.FC.sub (f' := [(14, _), (13, _), (12, _), (11, _), (0, _), (1, _), (2, _), (3, _)]) (.cons rfl (.cons rfl (.cons rfl (.cons rfl (.cons rfl (.cons rfl (.cons rfl (.cons rfl .nil)))))))) ?_)
            refine Fw.seq fun _ hK31 => ?_
            refine Fw.seq fun _ hK32 => ?_
            refine Fw.region ?_
            refine Fw.s (Fw.val_fieldAddr fl40_0 rfl rfl) rfl ?_
            refine Fw.s (Fw.val_fieldAddr fl32_3 rfl rfl) rfl ?_
            refine Fw.ld sc3 rfl (HX14.cell 3) rfl ?_
            refine Fw.s2 (Fw.val_bin rfl rfl Fw.b_eql) rfl ?_ ?_
            · rintro hl1
              refine Fw.s (Fw.val_move rfl) rfl ?_
              refine Fw.gF (d := 55) rfl rfl rfl rfl ?_
              refine Fw.gF (d := 55) rfl rfl rfl rfl ?_
              refine Fw.gF (d := 55) rfl rfl rfl rfl ?_
              refine Fw.gF (d := 55) rfl rfl rfl rfl ?_
              refine Fw.s (Fw.val_pickT rfl rfl) rfl ?_
              refine Fw.s (Fw.val_move rfl) rfl ?_
              refine Fw.gF (d := 61) rfl rfl rfl rfl ?_
              refine Fw.gF (d := 61) rfl rfl rfl rfl ?_
              refine Fw.gF (d := 61) rfl rfl rfl rfl ?_
              refine Fw.gF (d := 61) rfl rfl rfl rfl ?_
              refine Fw.gF (d := 61) rfl rfl rfl rfl ?_
              refine Fw.gF (d := 61) rfl rfl rfl rfl ?_
              refine Fw.gF (d := 61) rfl rfl rfl rfl ?_
              refine Fw.s (Fw.val_pickT rfl rfl) rfl ?_
              refine Fw.nil ?_
              refine hK32 _ _ (Fw.FC.sub (f' := [(69, _), (68, _), (67, _), (66, _), (65, _), (64, _), (63, _), (62, _), (59, _), (58, _), (57, _), (56, _), (14, _), (13, _), (12, _), (11, _), (0, _), (1, _), (2, _), (3, _)]) (.cons rfl (.cons rfl (.cons rfl (.cons rfl (.cons rfl (.cons rfl (.cons rfl (.cons rfl (.cons rfl (.cons rfl (.cons rfl (.cons rfl (.cons rfl (.cons rfl (.cons rfl (.cons rfl (.cons rfl (.cons rfl (.cons rfl (.cons rfl .nil)))))))))))))))))))) ?_)
              refine Fw.condT rfl ?_
              refine Fw.exit ?_
              refine Fw.X_exit ?_
              refine Fw.X_block ?_
              refine hK28 _ _ ?_
              refine Fw.region ?_
              refine Fw.s (Fw.val_move rfl) rfl ?_
              refine Fw.s (Fw.val_bin rfl rfl (Fw.b_add (Fw.i64_ok (by omega)))) rfl ?_
              refine Fw.s (Fw.val_assign rfl) rfl ?_
              refine Fw.nil ?_
              have hlate : Us.late l[k] now n = false := decide_eq_false (by omega)
              rw [Fw.mix_same (by simp) hkn (by rw [List.getElem_map]; exact if_neg (by rw [hlate]; decide))] at HM
              refine Fw.roundEnd _ _ (by omega) ⟨k + 1, r_, A_, c_, B_, d_, rfl, hkn, by rw [hr, Us.idx_snoc _ _ _ hkn, if_neg (by rw [hlate]; decide), List.append_nil], HN, HM, HB, rfl⟩ (.cons rfl (.cons rfl (.cons rfl (.cons rfl (.cons rfl (.cons rfl (.cons rfl .nil)))))))
            · rintro hl1
              refine Fw.s (Fw.val_move rfl) rfl ?_
              refine Fw.gT (d := 55) rfl rfl ?_
              refine Fw.s (Fw.val_fieldAddr fl40_0 rfl rfl) rfl ?_
              refine Fw.gT (d := 55) rfl rfl ?_
              refine Fw.s (Fw.val_fieldAddr fl32_3 rfl rfl) rfl ?_
              refine Fw.gT (d := 55) rfl rfl ?_
              refine Fw.ld sc3 rfl (HX14.cell 3) rfl ?_
              refine Fw.gT (d := 55) rfl rfl ?_
              refine Fw.s2 (Fw.val_bin rfl rfl Fw.b_eql) rfl ?_ ?_
              · rintro hl2
                refine Fw.s (Fw.val_pickF rfl rfl) rfl ?_
                refine Fw.s (Fw.val_move rfl) rfl ?_
                refine Fw.gF (d := 61) rfl rfl rfl rfl ?_
                refine Fw.gF (d := 61) rfl rfl rfl rfl ?_
                refine Fw.gF (d := 61) rfl rfl rfl rfl ?_
                refine Fw.gF (d := 61) rfl rfl rfl rfl ?_
                refine Fw.gF (d := 61) rfl rfl rfl rfl ?_
                refine Fw.gF (d := 61) rfl rfl rfl rfl ?_
                refine Fw.gF (d := 61) rfl rfl rfl rfl ?_
                refine Fw.s (Fw.val_pickT rfl rfl) rfl ?_
                refine Fw.nil ?_
                refine hK32 _ _ (Fw.FC.sub (f' := [(69, _), (68, _), (67, _), (66, _), (65, _), (64, _), (63, _), (62, _), (59, _), (58, _), (57, _), (56, _), (14, _), (13, _), (12, _), (11, _), (0, _), (1, _), (2, _), (3, _)]) (.cons rfl (.cons rfl (.cons rfl (.cons rfl (.cons rfl (.cons rfl (.cons rfl (.cons rfl (.cons rfl (.cons rfl (.cons rfl (.cons rfl (.cons rfl (.cons rfl (.cons rfl (.cons rfl (.cons rfl (.cons rfl (.cons rfl (.cons rfl .nil)))))))))))))))))))) ?_)
                refine Fw.condT rfl ?_
                refine Fw.exit ?_
                refine Fw.X_exit ?_
                refine Fw.X_block ?_
                refine hK28 _ _ ?_
                refine Fw.region ?_
                refine Fw.s (Fw.val_move rfl) rfl ?_
                refine Fw.s (Fw.val_bin rfl rfl (Fw.b_add (Fw.i64_ok (by omega)))) rfl ?_
                refine Fw.s (Fw.val_assign rfl) rfl ?_
                refine Fw.nil ?_
                have hlate : Us.late l[k] now n = false := decide_eq_false (by omega)
                rw [Fw.mix_same (by simp) hkn (by rw [List.getElem_map]; exact if_neg (by rw [hlate]; decide))] at HM
                refine Fw.roundEnd _ _ (by omega) ⟨k + 1, r_, A_, c_, B_, d_, rfl, hkn, by rw [hr, Us.idx_snoc _ _ _ hkn, if_neg (by rw [hlate]; decide), List.append_nil], HN, HM, HB, rfl⟩ (.cons rfl (.cons rfl (.cons rfl (.cons rfl (.cons rfl (.cons rfl (.cons rfl .nil)))))))
              · rintro hl2
                refine Fw.s (Fw.val_pickF rfl rfl) rfl ?_
                refine Fw.s (Fw.val_move rfl) rfl ?_
                refine Fw.gT (d := 61) rfl rfl ?_
                refine Fw.s (Fw.val_move rfl) rfl ?_
                refine Fw.gT (d := 61) rfl rfl ?_
                refine Fw.s (Fw.val_fieldAddr fl40_0 rfl rfl) rfl ?_
                refine Fw.gT (d := 61) rfl rfl ?_
                refine Fw.s (Fw.val_fieldAddr fl32_6 rfl rfl) rfl ?_
                refine Fw.gT (d := 61) rfl rfl ?_
                refine Fw.ld sc2 rfl (HX14.cell 6) rfl ?_
                refine Fw.gT (d := 61) rfl rfl ?_
                refine Fw.s (Fw.val_bin rfl rfl (Fw.b_sub rfl)) rfl ?_
                refine Fw.gT (d := 61) rfl rfl ?_
                refine Fw.s (Fw.val_move rfl) rfl ?_
                refine Fw.gT (d := 61) rfl rfl ?_
                refine Fw.s2 (Fw.val_bin rfl rfl Fw.b_lss) rfl ?_ ?_
                · rintro hl3
                  refine Fw.s (Fw.val_pickF rfl rfl) rfl ?_
                  refine Fw.nil ?_
                  refine hK32 _ _ (Fw.FC.sub (f' := [(69, _), (68, _), (67, _), (66, _), (65, _), (64, _), (63, _), (62, _), (59, _), (58, _), (57, _), (56, _), (14, _), (13, _), (12, _), (11, _), (0, _), (1, _), (2, _), (3, _)]) (.cons rfl (.cons rfl (.cons rfl (.cons rfl (.cons rfl (.cons rfl (.cons rfl (.cons rfl (.cons rfl (.cons rfl (.cons rfl (.cons rfl (.cons rfl (.cons rfl (.cons rfl (.cons rfl (.cons rfl (.cons rfl (.cons rfl (.cons rfl .nil)))))))))))))))))))) ?_)
                  refine Fw.condT rfl ?_
                  refine Fw.exit ?_
                  refine Fw.X_exit ?_
                  refine Fw.X_block ?_
                  refine hK28 _ _ ?_
                  refine Fw.region ?_
                  refine Fw.s (Fw.val_move rfl) rfl ?_
                  refine Fw.s (Fw.val_bin rfl rfl (Fw.b_add (Fw.i64_ok (by omega)))) rfl ?_
                  refine Fw.s (Fw.val_assign rfl) rfl ?_
                  refine Fw.nil ?_
                  have hlate : Us.late l[k] now n = false := decide_eq_false (by omega)
                  rw [Fw.mix_same (by simp) hkn (by rw [List.getElem_map]; exact if_neg (by rw [hlate]; decide))] at HM
                  refine Fw.roundEnd _ _ (by omega) ⟨k + 1, r_, A_, c_, B_, d_, rfl, hkn, by rw [hr, Us.idx_snoc _ _ _ hkn, if_neg (by rw [hlate]; decide), List.append_nil], HN, HM, HB, rfl⟩ (.cons rfl (.cons rfl (.cons rfl (.cons rfl (.cons rfl (.cons rfl (.cons rfl .nil)))))))
                · rintro hl3
                  refine Fw.s (Fw.val_pickF rfl rfl) rfl ?_
                  refine Fw.nil ?_
                  refine hK32 _ _ (Fw.FC.sub (f' := [(69, _), (68, _), (67, _), (66, _), (65, _), (64, _), (63, _), (62, _), (59, _), (58, _), (57, _), (56, _), (14, _), (13, _), (12, _), (11, _), (0, _), (1, _), (2, _), (3, _)]) (.cons rfl (.cons rfl (.cons rfl (.cons rfl (.cons rfl (.cons rfl (.cons rfl (.cons rfl (.cons rfl (.cons rfl (.cons rfl (.cons rfl (.cons rfl (.cons rfl (.cons rfl (.cons rfl (.cons rfl (.cons rfl (.cons rfl (.cons rfl .nil)))))))))))))))))))) ?_)
                  refine Fw.condF rfl ?_
                  refine Fw.skip ?_
                  refine hK31 _ _ ?_
                  refine Fw.seq fun _ hK36 => ?_
                  have hlate : Us.late l[k] now n = true := decide_eq_true (by omega)
                  refine Fw.region ?_
                  refine Fw.s (Fw.val_fieldAddr fl40_0 rfl rfl) rfl ?_
                  refine Fw.s (Fw.val_fieldAddr fl32_3 rfl rfl) rfl ?_
                  refine Fw.store sz3 rfl rfl HX14 rfl rfl rfl ?_
                  intro w6 N_ hc
                  replace HN := own_to HN hc (fun g_ h_ e_ => own_ne HN HX14 (by decide) (by rw [h_, e_]))
                  replace HM := HM.chg hc fr_HM_gX14
                  replace HB := HB.trans (hc.below (B := w.heap.size) (fun k e => by omega) HB.size)
                  clear hc
                  clear HX14
                  have HX14 := N_
                  clear N_
                  refine Fw.nil ?_
                  refine hK36 _ _ ?_
                  refine Fw.seq fun _ hK37 => ?_
                  refine Fw.region ?_
                  refine Fw.s (Fw.val_fieldAddr fl40_0 rfl rfl) rfl ?_
                  refine Fw.s (Fw.val_fieldAddr fl32_7 rfl rfl) rfl ?_
                  refine Fw.store sz2 rfl rfl HX14 rfl rfl rfl ?_
                  intro w7 N_ hc
                  replace HN := own_to HN hc (fun g_ h_ e_ => own_ne HN HX14 (by decide) (by rw [h_, e_]))
                  replace HM := HM.chg hc fr_HM_gX14
                  replace HB := HB.trans (hc.below (B := w.heap.size) (fun k e => by omega) HB.size)
                  clear hc
                  clear HX14
                  have HX14 := N_
                  clear N_
                  refine Fw.nil ?_
                  refine hK37 _ _ ?_
                  refine Fw.seq fun _ hK38 => ?_
                  refine Fw.region ?_
                  refine Fw.s (Fw.val_move rfl) rfl ?_
                  refine Fw.ldA ag40 rfl (Fw.rdBlk HX14) rfl rfl ?_
                  refine Fw.s (Fw.val_move rfl) rfl ?_
                  refine Fw.s (Fw.val_build (ps := [(1, _), (2, _)]) rfl (bu36_1_2 _ _)) rfl ?_
                  refine Fw.call cf53 rfl rfl (rgiven_any { l[k] with state := 7, inc := 0 } 0 e 2 0 0 _) ?_
                  rintro e_ w8 ⟨rfl, hb⟩
                  refine ⟨_, rfl, ?_⟩
                  replace HN := own_below HN hb (Nat.le_refl _)
                  replace HM := HM.low hb
                  replace HX14 := HX14.low hb
                  replace HB := HB.trans (hb.mono HB.size)
                  clear hb
                  refine Fw.call cf54 rfl rfl (rwith_any _ A_ (Fw.mix (l.map (fun u : Us.U => Us.quietU u now n e)) l k) c_ (Us.issue { l[k] with state := 7, inc := 0 } e 2 0 0) k l.length (by rw [Fw.mix_len (by simp)]) HM (by exact hw k hkn) (by rw [Fw.mix_len (by simp)]; exact hkn) (by rw [Fw.mix_len (by simp)]; exact hl)) ?_
                  rintro e_ w9 ⟨A1, cc1, rfl, HM2, hb⟩
                  refine ⟨_, rfl, ?_⟩
                  replace HN := own_below HN hb (Nat.le_refl _)
                  replace HX14 := HX14.low hb
                  replace HB := HB.trans (hb.mono HB.size)
                  clear hb
                  clear HM
                  refine Fw.s (Fw.val_assign rfl) rfl ?_
                  refine Fw.nil ?_
                  refine hK38 _ _ (Fw.FC.sub (f' := [(12, _), (68, _), (67, _), (66, _), (65, _), (64, _), (63, _), (62, _), (59, _), (58, _), (57, _), (56, _), (13, _), (11, _), (0, _), (1, _), (2, _), (3, _)]) (.cons rfl (.cons rfl (.cons rfl (.cons rfl (.cons rfl (.cons rfl (.cons rfl (.cons rfl (.cons rfl (.cons rfl (.cons rfl (.cons rfl (.cons rfl (.cons rfl (.cons rfl (.cons rfl (.cons rfl (.cons rfl .nil)))))))))))))))))) ?_)
                  refine Fw.region ?_
                  refine Fw.s (Fw.val_move rfl) rfl ?_
                  refine Fw.s (Fw.val_move rfl) rfl ?_
                  refine Fw.buildSlice [_] sl58 rfl rfl (by exact Fw.allSz rfl) (by decide) rfl ?_
                  intro w10 gS82 egS82 HS82 hb
                  have lgS82 : w.heap.size ≤ gS82 := by have := HB.size; omega
                  replace HN := own_below HN hb (Nat.le_refl _)
                  replace HM2 := HM2.low hb
                  replace HB := HB.trans (hb.mono HB.size)
                  clear hb
                  clear egS82
                  have hNr := Us.idx_len (fun u => Us.late u now n) (l.take k)
                  refine Fw.append (r_ ++ [(k : Int)]).length ((r_ ++ [(k : Int)]).map (.int .i64)) sl58 rfl rfl HN (show Rd _ _ [.int .i64 (k : Int)] from Fw.rdBlk HS82) rfl (Fw.oneCellsL rfl) (by rw [hr]; have := List.length_take (i := k) (l := l); unfold maxLen; omega) HB.size (by simp) (by rw [List.map_append]; rfl) rfl ?_
                  intro A' c' w11 N_ hbb hc _
                  replace HM2 := HM2.kp ((Fw.Kp.refl [3] _).row hc HN rfl) rfl
                  replace HB := HB.trans hbb
                  clear hbb hc HN
                  have HN := N_
                  clear N_
                  refine Fw.s (Fw.val_assign rfl) rfl ?_
                  refine Fw.nil ?_
                  refine Fw.X_blockN ?_
                  refine hK28 _ _ ?_
                  refine Fw.region ?_
                  refine Fw.s (Fw.val_move rfl) rfl ?_
                  refine Fw.s (Fw.val_bin rfl rfl (Fw.b_add (Fw.i64_ok (by omega)))) rfl ?_
                  refine Fw.s (Fw.val_assign rfl) rfl ?_
                  refine Fw.nil ?_
                  have HM : Fw.RdT w11 40 A1 ((Fw.mix (l.map (fun u : Us.U => Us.quietU u now n e)) l (k + 1)).flatMap Us.U.cells) := by
                    rw [← Fw.mix_set (by simp) hkn, List.getElem_map, show Us.quietU l[k] now n e = Us.issue { l[k] with state := 7, inc := 0 } e 2 0 0 from if_pos hlate]; exact HM2
                  clear HM2
                  refine Fw.roundEnd _ _ (by omega) ⟨k + 1, r_ ++ [(k : Int)], A1, cc1, A', c', rfl, hkn, by rw [hr, Us.idx_snoc _ _ _ hkn, if_pos hlate], HN, HM, HB, rfl⟩ (.cons rfl (.cons rfl (.cons rfl (.cons rfl (.cons rfl (.cons rfl (.cons rfl .nil)))))))
          · rintro hk2
            refine Fw.nil ?_
            refine hK26 _ _ ?_
            refine Fw.condF rfl ?_
            refine Fw.exit ?_
            refine Fw.X_exit ?_
            refine Fw.X_exit ?_
            refine Fw.X_block ?_
            refine hK22 _ _ (Fw.FC.sub (f' := [(12, _), (11, _)]) (.cons rfl (.cons rfl .nil)) ?_)
            refine Fw.seq fun _ hK39 => ?_
            obtain rfl : k = l.length := by omega
            rw [List.take_length] at hr
            subst hr
            rw [Fw.mix_all (by simp) rfl] at HM
            refine Fw.region ?_
            refine Fw.s (Fw.val_move rfl) rfl ?_
            refine Fw.s (Fw.val_move rfl) rfl ?_
            refine Fw.s (Fw.val_assign rfl) rfl ?_
            refine Fw.s (Fw.val_assign rfl) rfl ?_
            refine Fw.nil ?_
            refine hK39 _ _ ?_
            refine Fw.ret ?_
            refine Fw.ret_ [.tmp 8, .tmp 9] [_, _] Try.results38 (.tmp rfl (.tmp rfl .nil)) ?_
            rw [show Us.quietW l now n e = _ from if_pos hok, show Us.quietL l now n e = l.map (fun u : Us.U => Us.quietU u now n e) from if_pos hok]
            exact ⟨_, _, _, _, by rw [List.length_map]; rfl, HM, HN, HB⟩

set_option maxRecDepth 100000 in
set_option maxHeartbeats 1000000 in
theorem rnew_any (w : World) (A : Option Addr) (l : List Us.Cfg) (c : Nat) (h : Rd w A (l.flatMap Us.Cfg.cells)) : Calls Try.prog 11 #[.slice A l.length c] w fun e_ w' => ∃ A' c' r, e_ = .returned (.tuple #[.slice A' r c', .int .i64 (Us.newE l)]) ∧ (Us.newE l = 0 → r = (Us.newL l).length ∧ Fw.RdT w' 40 A' ((Us.newL l).flatMap Us.U.cells)) ∧ (Us.newE l ≠ 0 → A' = none ∧ r = 0 ∧ c' = 0) ∧ Below w.heap.size w w' := by
  refine Fw.calls Try.func11 rfl Try.ntmps11 rfl ?_
  have HB := Below.refl (w.heap.size) w
  refine Fw.seq fun _ hK1 => ?_
  refine Fw.region ?_
  refine Fw.s (Fw.val_assign rfl) rfl ?_
  refine Fw.s (Fw.val_assign rfl) rfl ?_
  refine Fw.nil ?_
  refine hK1 _ _ ?_
  refine Fw.seq fun _ hK2 => ?_
  refine Fw.seq fun _ hK3 => ?_
  refine Fw.region ?_
  refine Fw.s (Fw.val_move rfl) rfl ?_
  refine Fw.s (Fw.val_len Try.underlying22 rfl) rfl ?_
  refine Fw.s2 (Fw.val_bin rfl rfl Fw.b_gtr) rfl ?_ ?_
  · rintro hbig
    refine Fw.nil ?_
    refine hK3 _ _ ?_
    refine Fw.condT rfl ?_
    refine Fw.seq fun _ hK5 => ?_
    refine Fw.region ?_
    refine Fw.s (Fw.val_assign rfl) rfl ?_
    refine Fw.s (Fw.val_assign rfl) rfl ?_
    refine Fw.nil ?_
    refine hK5 _ _ ?_
    refine Fw.ret ?_
    refine Fw.X_ret ?_
    refine Fw.ret_ [.tmp 2, .tmp 3] [_, _] Try.results11 (.tmp rfl (.tmp rfl .nil)) ?_
    have hE : Us.newE l = 3 := by unfold Us.newE; rw [if_pos (by omega)]
    rw [hE]
    exact ⟨_, _, _, rfl, fun h_ => by simp at h_, fun _ => ⟨rfl, rfl, rfl⟩, HB⟩
  · rintro hbig
    refine Fw.nil ?_
    refine hK3 _ _ ?_
    refine Fw.condF rfl ?_
    refine Fw.skip ?_
    refine hK2 _ _ ?_
    refine Fw.seq fun _ hK6 => ?_
    refine Fw.region ?_
    refine Fw.s (Fw.val_assign rfl) rfl ?_
    refine Fw.nil ?_
    refine hK6 _ _ ?_
    refine Fw.seq fun _ hK7 => ?_
    refine Fw.seq fun _ hK8 => ?_
    refine Fw.region ?_
    refine Fw.s (Fw.val_assign rfl) rfl ?_
    refine Fw.nil ?_
    refine hK8 _ _ ?_
    refine Fw.block ?_
    have HN : w.ownsRow w.heap.size 40 15 (.slice none 0 0) 0 ((Us.newL (l.take 0)).flatMap Us.U.cells) := ⟨rfl, .inl ⟨rfl, rfl⟩⟩
    refine Fw.loop (fun m_ f_ W_ => ∃ (k : Nat) (A_ : Option Addr) (c_ : Nat), m_ = l.length - k ∧ k ≤ l.length ∧ (l.take k).all Us.cfgB = true ∧ W_.ownsRow w.heap.size 40 15 (.slice A_ k c_) k ((Us.newL (l.take k)).flatMap Us.U.cells) ∧ Below (w.heap.size) w W_ ∧ f_ = [(5, .int .i64 k), (4, .slice A_ k c_), (0, .slice A l.length c)]) ⟨_, _, ⟨0, none, 0, rfl, Nat.zero_le _, rfl, HN, HB, rfl⟩, (.cons rfl (.cons rfl (.cons rfl .nil)))⟩ ?_
    clear HN HB
    rintro m9_ _ w1 ⟨k, A_, c_, hm9_, hkl, hall, HN, HB, rfl⟩
    refine Fw.seq fun _ hK10 => ?_
    refine Fw.seq fun _ hK11 => ?_
    refine Fw.region ?_
    refine Fw.s (Fw.val_move rfl) rfl ?_
    refine Fw.s (Fw.val_move rfl) rfl ?_
    refine Fw.s (Fw.val_len Try.underlying22 rfl) rfl ?_
    refine Fw.s2 (Fw.val_bin rfl rfl Fw.b_lss) rfl ?_ ?_
    · rintro hk
      refine Fw.nil ?_
      refine hK11 _ _ ?_
      refine Fw.condT rfl ?_
      refine Fw.skip ?_
      refine hK10 _ _ ?_
      refine Fw.seq fun _ hK13 => ?_
      refine Fw.block ?_
      refine Fw.seq fun _ hK14 => ?_
      have hkn : k < l.length := by omega
      obtain ⟨ad, b, o, hA, hadd, HE⟩ := Fw.rdAt Us.Cfg.len (by decide) (h.low HB) k hkn
      refine Fw.region ?_
      refine Fw.s (Fw.val_move rfl) rfl ?_
      refine Fw.s (Fw.val_move rfl) rfl ?_
      refine Fw.s (Fw.val_indexR Try.underlying22 sz66 rfl hA rfl rfl hkn hadd) rfl ?_
      refine Fw.ldA ag66 rfl (HE) rfl rfl ?_
      refine Fw.alloc ze66 rfl ?_
      intro w2 gX6 egX6 HX6 hb
      have lgX6 : w.heap.size ≤ gX6 := by have := HB.size; omega
      clear HE
      replace HN := own_below HN hb (Nat.le_refl _)
      replace HB := HB.trans (hb.mono HB.size)
      clear hb
      clear egX6
      refine Fw.storeW sz66 rfl rfl HX6 rfl rfl (by exact Fw.oneCells rfl) ?_
      intro w3 N_ hc
      replace HN := own_to HN hc (fun g_ h_ e_ => own_ne HN HX6 (by decide) (by rw [h_, e_]))
      replace HB := HB.trans (hc.below (B := w.heap.size) (fun k e => by omega) HB.size)
      clear hc
      clear HX6
      have HX6 := N_
      clear N_
      refine Fw.nil ?_
      refine hK14 _ _ (Fw.FC.sub (f' := [(6, _), (5, _), (4, _), (0, _)]) (.cons rfl (.cons rfl (.cons rfl (.cons rfl .nil)))) ?_)
      refine Fw.seq fun _ hK16 => ?_
      refine Fw.seq fun _ hK17 => ?_
      refine Fw.region ?_
      refine Fw.s (Fw.val_fieldAddr fl66_0 rfl rfl) rfl ?_
      refine Fw.ld sc3 rfl (HX6.cell 0) rfl ?_
      refine Fw.s2 (Fw.val_bin rfl rfl Fw.b_lss) rfl ?_ ?_
      · rintro hq1
        refine Fw.s (Fw.val_move rfl) rfl ?_
        refine Fw.gF (d := 23) rfl rfl rfl rfl ?_
        refine Fw.gF (d := 23) rfl rfl rfl rfl ?_
        refine Fw.gF (d := 23) rfl rfl rfl rfl ?_
        refine Fw.s (Fw.val_pickT rfl rfl) rfl ?_
        refine Fw.s (Fw.val_move rfl) rfl ?_
        refine Fw.gF (d := 28) rfl rfl rfl rfl ?_
        refine Fw.gF (d := 28) rfl rfl rfl rfl ?_
        refine Fw.gF (d := 28) rfl rfl rfl rfl ?_
        refine Fw.s (Fw.val_pickT rfl rfl) rfl ?_
        refine Fw.s (Fw.val_move rfl) rfl ?_
        refine Fw.gF (d := 33) rfl rfl rfl rfl ?_
        refine Fw.gF (d := 33) rfl rfl rfl rfl ?_
        refine Fw.gF (d := 33) rfl rfl rfl rfl ?_
        refine Fw.s (Fw.val_pickT rfl rfl) rfl ?_
        refine Fw.s (Fw.val_move rfl) rfl ?_
        refine Fw.gF (d := 38) rfl rfl rfl rfl ?_
        refine Fw.gF (d := 38) rfl rfl rfl rfl ?_
        refine Fw.gF (d := 38) rfl rfl rfl rfl ?_
        refine Fw.s (Fw.val_pickT rfl rfl) rfl ?_
        refine Fw.nil ?_
        refine hK17 _ _ (Fw.FC.sub (f' := [(42, _), (41, _), (40, _), (39, _), (36, _), (35, _), (34, _), (31, _), (30, _), (29, _), (26, _), (25, _), (24, _), (6, _), (5, _), (4, _), (0, _)]) (.cons rfl (.cons rfl (.cons rfl (.cons rfl (.cons rfl (.cons rfl (.cons rfl (.cons rfl (.cons rfl (.cons rfl (.cons rfl (.cons rfl (.cons rfl (.cons rfl (.cons rfl (.cons rfl (.cons rfl .nil))))))))))))))))) ?_)
        refine Fw.condT rfl ?_
        refine Fw.seq fun _ hK19 => ?_
        refine Fw.region ?_
        refine Fw.s (Fw.val_assign rfl) rfl ?_
        refine Fw.s (Fw.val_assign rfl) rfl ?_
        refine Fw.nil ?_
        refine hK19 _ _ (Fw.FC.sub (f' := [(3, _), (2, _)]) (.cons rfl (.cons rfl .nil)) ?_)
        refine Fw.ret ?_
        refine Fw.X_ret ?_
        refine Fw.X_blockR ?_
        refine Fw.X_ret ?_
        refine Fw.X_ret ?_
        refine Fw.X_blockR ?_
        refine Fw.X_ret ?_
        refine Fw.ret_ [.tmp 2, .tmp 3] [_, _] Try.results11 (.tmp rfl (.tmp rfl .nil)) ?_
        have hE : Us.newE l = 1 := by
          unfold Us.newE; rw [if_neg (by omega), if_neg]
          intro hal
          have := List.all_eq_true.1 hal l[k] (List.getElem_mem hkn)
          rw [show Us.cfgB l[k] = false from by unfold Us.cfgB; rw [decide_eq_false (by omega)]; rfl] at this; cases this
        rw [hE]
        exact ⟨_, _, _, rfl, fun h_ => by simp at h_, fun _ => ⟨rfl, rfl, rfl⟩, HB⟩
      · rintro hq1
        refine Fw.s (Fw.val_move rfl) rfl ?_
        refine Fw.gT (d := 23) rfl rfl ?_
        refine Fw.s (Fw.val_fieldAddr fl66_0 rfl rfl) rfl ?_
        refine Fw.gT (d := 23) rfl rfl ?_
        refine Fw.ld sc3 rfl (HX6.cell 0) rfl ?_
        refine Fw.gT (d := 23) rfl rfl ?_
        refine Fw.s2 (Fw.val_bin rfl rfl Fw.b_gtr) rfl ?_ ?_
        · rintro hq2
          refine Fw.s (Fw.val_pickF rfl rfl) rfl ?_
          refine Fw.s (Fw.val_move rfl) rfl ?_
          refine Fw.gF (d := 28) rfl rfl rfl rfl ?_
          refine Fw.gF (d := 28) rfl rfl rfl rfl ?_
          refine Fw.gF (d := 28) rfl rfl rfl rfl ?_
          refine Fw.s (Fw.val_pickT rfl rfl) rfl ?_
          refine Fw.s (Fw.val_move rfl) rfl ?_
          refine Fw.gF (d := 33) rfl rfl rfl rfl ?_
          refine Fw.gF (d := 33) rfl rfl rfl rfl ?_
          refine Fw.gF (d := 33) rfl rfl rfl rfl ?_
          refine Fw.s (Fw.val_pickT rfl rfl) rfl ?_
          refine Fw.s (Fw.val_move rfl) rfl ?_
          refine Fw.gF (d := 38) rfl rfl rfl rfl ?_
          refine Fw.gF (d := 38) rfl rfl rfl rfl ?_
          refine Fw.gF (d := 38) rfl rfl rfl rfl ?_
          refine Fw.s (Fw.val_pickT rfl rfl) rfl ?_
          refine Fw.nil ?_
          refine hK17 _ _ (Fw.FC.sub (f' := [(42, _), (41, _), (40, _), (39, _), (36, _), (35, _), (34, _), (31, _), (30, _), (29, _), (26, _), (25, _), (24, _), (6, _), (5, _), (4, _), (0, _)]) (.cons rfl (.cons rfl (.cons rfl (.cons rfl (.cons rfl (.cons rfl (.cons rfl (.cons rfl (.cons rfl (.cons rfl (.cons rfl (.cons rfl (.cons rfl (.cons rfl (.cons rfl (.cons rfl (.cons rfl .nil))))))))))))))))) ?_)
          refine Fw.condT rfl ?_
          refine Fw.seq fun _ hK21 => ?_
          refine Fw.region ?_
          refine Fw.s (Fw.val_assign rfl) rfl ?_
          refine Fw.s (Fw.val_assign rfl) rfl ?_
          refine Fw.nil ?_
          refine hK21 _ _ (Fw.FC.sub (f' := [(3, _), (2, _)]) (.cons rfl (.cons rfl .nil)) ?_)
          refine Fw.ret ?_
          refine Fw.X_ret ?_
          refine Fw.X_blockR ?_
          refine Fw.X_ret ?_
          refine Fw.X_ret ?_
          refine Fw.X_blockR ?_
          refine Fw.X_ret ?_
          refine Fw.ret_ [.tmp 2, .tmp 3] [_, _] Try.results11 (.tmp rfl (.tmp rfl .nil)) ?_
          have hE : Us.newE l = 1 := by
            unfold Us.newE; rw [if_neg (by omega), if_neg]
            intro hal
            have := List.all_eq_true.1 hal l[k] (List.getElem_mem hkn)
            rw [show Us.cfgB l[k] = false from by unfold Us.cfgB; rw [decide_eq_false (by omega)]; rfl] at this; cases this
          rw [hE]
          exact ⟨_, _, _, rfl, fun h_ => by simp at h_, fun _ => ⟨rfl, rfl, rfl⟩, HB⟩
        · rintro hq2
          refine Fw.s (Fw.val_pickF rfl rfl) rfl ?_
          refine Fw.s (Fw.val_move rfl) rfl ?_
          refine Fw.gT (d := 28) rfl rfl ?_
          refine Fw.s (Fw.val_fieldAddr fl66_1 rfl rfl) rfl ?_
          refine Fw.gT (d := 28) rfl rfl ?_
          refine Fw.ld sc3 rfl (HX6.cell 1) rfl ?_
          refine Fw.gT (d := 28) rfl rfl ?_
          refine Fw.s2 (Fw.val_bin rfl rfl Fw.b_lss) rfl ?_ ?_
          · rintro hq3
            refine Fw.s (Fw.val_pickF rfl rfl) rfl ?_
            refine Fw.s (Fw.val_move rfl) rfl ?_
            refine Fw.gF (d := 33) rfl rfl rfl rfl ?_
            refine Fw.gF (d := 33) rfl rfl rfl rfl ?_
            refine Fw.gF (d := 33) rfl rfl rfl rfl ?_
            refine Fw.s (Fw.val_pickT rfl rfl) rfl ?_
            refine Fw.s (Fw.val_move rfl) rfl ?_
            refine Fw.gF (d := 38) rfl rfl rfl rfl ?_
            refine Fw.gF (d := 38) rfl rfl rfl rfl ?_
            refine Fw.gF (d := 38) rfl rfl rfl rfl ?_
            refine Fw.s (Fw.val_pickT rfl rfl) rfl ?_
            refine Fw.nil ?_
            refine hK17 _ _ (Fw.FC.sub (f' := [(42, _), (41, _), (40, _), (39, _), (36, _), (35, _), (34, _), (31, _), (30, _), (29, _), (26, _), (25, _), (24, _), (6, _), (5, _), (4, _), (0, _)]) (.cons rfl (.cons rfl (.cons rfl (.cons rfl (.cons rfl (.cons rfl (.cons rfl (.cons rfl (.cons rfl (.cons rfl (.cons rfl (.cons rfl (.cons rfl (.cons rfl (.cons rfl (.cons rfl (.cons rfl .nil))))))))))))))))) ?_)
            refine Fw.condT rfl ?_
            refine Fw.seq fun _ hK23 => ?_
            refine Fw.region ?_
            refine Fw.s (Fw.val_assign rfl) rfl ?_
            refine Fw.s (Fw.val_assign rfl) rfl ?_
            refine Fw.nil ?_
            refine hK23 _ _ (Fw.FC.sub (f' := [(3, _), (2, _)]) (.cons rfl (.cons rfl .nil)) ?_)
            refine Fw.ret ?_
            refine Fw.X_ret ?_
            refine Fw.X_blockR ?_
            refine Fw.X_ret ?_
            refine Fw.X_ret ?_
            refine Fw.X_blockR ?_
            refine Fw.X_ret ?_
            refine Fw.ret_ [.tmp 2, .tmp 3] [_, _] Try.results11 (.tmp rfl (.tmp rfl .nil)) ?_
            have hE : Us.newE l = 1 := by
              unfold Us.newE; rw [if_neg (by omega), if_neg]
              intro hal
              have := List.all_eq_true.1 hal l[k] (List.getElem_mem hkn)
              rw [show Us.cfgB l[k] = false from by unfold Us.cfgB; rw [show decide (0 ≤ l[k].h) = false from decide_eq_false (by omega)]; simp] at this; cases this
            rw [hE]
            exact ⟨_, _, _, rfl, fun h_ => by simp at h_, fun _ => ⟨rfl, rfl, rfl⟩, HB⟩
          · rintro hq3
            refine Fw.s (Fw.val_pickF rfl rfl) rfl ?_
            refine Fw.s (Fw.val_move rfl) rfl ?_
            refine Fw.gT (d := 33) rfl rfl ?_
            refine Fw.s (Fw.val_fieldAddr fl66_2 rfl rfl) rfl ?_
            refine Fw.gT (d := 33) rfl rfl ?_
            refine Fw.ld sc3 rfl (HX6.cell 2) rfl ?_
            refine Fw.gT (d := 33) rfl rfl ?_
            refine Fw.s2 (Fw.val_bin rfl rfl Fw.b_lss) rfl ?_ ?_
            · rintro hq4
              refine Fw.s (Fw.val_pickF rfl rfl) rfl ?_
              refine Fw.s (Fw.val_move rfl) rfl ?_
              refine Fw.gF (d := 38) rfl rfl rfl rfl ?_
              refine Fw.gF (d := 38) rfl rfl rfl rfl ?_
              refine Fw.gF (d := 38) rfl rfl rfl rfl ?_
              refine Fw.s (Fw.val_pickT rfl rfl) rfl ?_
              refine Fw.nil ?_
              refine hK17 _ _ (Fw.FC.sub (f' := [(42, _), (41, _), (40, _), (39, _), (36, _), (35, _), (34, _), (31, _), (30, _), (29, _), (26, _), (25, _), (24, _), (6, _), (5, _), (4, _), (0, _)]) (.cons rfl (.cons rfl (.cons rfl (.cons rfl (.cons rfl (.cons rfl (.cons rfl (.cons rfl (.cons rfl (.cons rfl (.cons rfl (.cons rfl (.cons rfl (.cons rfl (.cons rfl (.cons rfl (.cons rfl .nil))))))))))))))))) ?_)
              refine Fw.condT rfl ?_
              refine Fw.seq fun _ hK25 => ?_
              refine Fw.region ?_
              refine Fw.s (Fw.val_assign rfl) rfl ?_
              refine Fw.s (Fw.val_assign rfl) rfl ?_
              refine Fw.nil ?_
              refine hK25 _ _ (Fw.FC.sub (f' := [(3, _), (2, _)]) (.cons rfl (.cons rfl .nil)) ?_)
              refine Fw.ret ?_
              refine Fw.X_ret ?_
              refine Fw.X_blockR ?_
              refine Fw.X_ret ?_
              refine Fw.X_ret ?_
              refine Fw.X_blockR ?_
              refine Fw.X_ret ?_
              refine Fw.ret_ [.tmp 2, .tmp 3] [_, _] Try.results11 (.tmp rfl (.tmp rfl .nil)) ?_
              have hE : Us.newE l = 1 := by
                unfold Us.newE; rw [if_neg (by omega), if_neg]
                intro hal
                have := List.all_eq_true.1 hal l[k] (List.getElem_mem hkn)
                rw [show Us.cfgB l[k] = false from by unfold Us.cfgB; rw [show Us.nodeB l[k].n = false from decide_eq_false (by omega)]; simp] at this; cases this
              rw [hE]
              exact ⟨_, _, _, rfl, fun h_ => by simp at h_, fun _ => ⟨rfl, rfl, rfl⟩, HB⟩
            · rintro hq4
              refine Fw.s (Fw.val_pickF rfl rfl) rfl ?_
              refine Fw.s (Fw.val_move rfl) rfl ?_
              refine Fw.gT (d := 38) rfl rfl ?_
              refine Fw.s (Fw.val_fieldAddr fl66_2 rfl rfl) rfl ?_
              refine Fw.gT (d := 38) rfl rfl ?_
              refine Fw.ld sc3 rfl (HX6.cell 2) rfl ?_
              refine Fw.gT (d := 38) rfl rfl ?_
              refine Fw.s2 (Fw.val_bin rfl rfl Fw.b_geq) rfl ?_ ?_
              · rintro hq5
                refine Fw.s (Fw.val_pickF rfl rfl) rfl ?_
                refine Fw.nil ?_
                refine hK17 _ _ (Fw.FC.sub (f' := [(42, _), (41, _), (40, _), (39, _), (36, _), (35, _), (34, _), (31, _), (30, _), (29, _), (26, _), (25, _), (24, _), (6, _), (5, _), (4, _), (0, _)]) (.cons rfl (.cons rfl (.cons rfl (.cons rfl (.cons rfl (.cons rfl (.cons rfl (.cons rfl (.cons rfl (.cons rfl (.cons rfl (.cons rfl (.cons rfl (.cons rfl (.cons rfl (.cons rfl (.cons rfl .nil))))))))))))))))) ?_)
                refine Fw.condT rfl ?_
                refine Fw.seq fun _ hK27 => ?_
                refine Fw.region ?_
                refine Fw.s (Fw.val_assign rfl) rfl ?_
                refine Fw.s (Fw.val_assign rfl) rfl ?_
                refine Fw.nil ?_
                refine hK27 _ _ (Fw.FC.sub (f' := [(3, _), (2, _)]) (.cons rfl (.cons rfl .nil)) ?_)
                refine Fw.ret ?_
                refine Fw.X_ret ?_
                refine Fw.X_blockR ?_
                refine Fw.X_ret ?_
                refine Fw.X_ret ?_
                refine Fw.X_blockR ?_
                refine Fw.X_ret ?_
                refine Fw.ret_ [.tmp 2, .tmp 3] [_, _] Try.results11 (.tmp rfl (.tmp rfl .nil)) ?_
                have hE : Us.newE l = 1 := by
                  unfold Us.newE; rw [if_neg (by omega), if_neg]
                  intro hal
                  have := List.all_eq_true.1 hal l[k] (List.getElem_mem hkn)
                  rw [show Us.cfgB l[k] = false from by unfold Us.cfgB; rw [show Us.nodeB l[k].n = false from decide_eq_false (by omega)]; simp] at this; cases this
                rw [hE]
                exact ⟨_, _, _, rfl, fun h_ => by simp at h_, fun _ => ⟨rfl, rfl, rfl⟩, HB⟩
              · rintro hq5
                refine Fw.s (Fw.val_pickF rfl rfl) rfl ?_
                refine Fw.nil ?_
                refine hK17 _ _ (Fw.FC.sub (f' := [(42, _), (41, _), (40, _), (39, _), (36, _), (35, _), (34, _), (31, _), (30, _), (29, _), (26, _), (25, _), (24, _), (6, _), (5, _), (4, _), (0, _)]) (.cons rfl (.cons rfl (.cons rfl (.cons rfl (.cons rfl (.cons rfl (.cons rfl (.cons rfl (.cons rfl (.cons rfl (.cons rfl (.cons rfl (.cons rfl (.cons rfl (.cons rfl (.cons rfl (.cons rfl .nil))))))))))))))))) ?_)
                refine Fw.condF rfl ?_
                refine Fw.skip ?_
                refine hK16 _ _ ?_
                have hc1 : 1 ≤ l[k].k := by omega
                have hc2 : l[k].k ≤ 4 := by omega
                have hc3 : 0 ≤ l[k].h := by omega
                have hc4 : 0 ≤ l[k].n := by omega
                have hc5 : l[k].n < 4096 := by omega
                refine Fw.region ?_
                refine Fw.s (Fw.val_move rfl) rfl ?_
                refine Fw.s (Fw.val_move rfl) rfl ?_
                refine Fw.s (Fw.val_fieldAddr fl66_0 rfl rfl) rfl ?_
                refine Fw.ld sc3 rfl (HX6.cell 0) rfl ?_
                refine Fw.s (Fw.val_fieldAddr fl66_1 rfl rfl) rfl ?_
                refine Fw.ld sc3 rfl (HX6.cell 1) rfl ?_
                refine Fw.s (Fw.val_fieldAddr fl66_2 rfl rfl) rfl ?_
                refine Fw.ld sc3 rfl (HX6.cell 2) rfl ?_
                refine Fw.s (Fw.val_build (ps := [(0, _), (1, _), (2, _), (3, _), (4, _)]) rfl (bu32_0_1_2_3_4 _ _ _ _ _)) rfl ?_
                refine Fw.s (Fw.val_build (ps := [(0, _)]) rfl (bu40_0 _ _ _ _ _ _ _ _ _ _)) rfl ?_
                refine Fw.buildSlice [_] sl28 rfl rfl (by exact Fw.allSz rfl) (by decide) rfl ?_
                intro w4 gS53 egS53 HS53 hb
                have n_gX6_gS53 : gX6 < gS53 := by have := HX6.lt; omega
                have lgS53 : w.heap.size ≤ gS53 := by have := HB.size; omega
                replace HN := own_below HN hb (Nat.le_refl _)
                replace HX6 := HX6.low hb
                replace HB := HB.trans (hb.mono HB.size)
                clear hb
                clear egS53
                refine Fw.append (k + 1) ((Us.newL (l.take (k + 1))).flatMap Us.U.cells) sl28 rfl rfl HN (show Rd _ _ (Us.U.cells (Us.fresh l[k] k)) from Fw.rdBlk HS53) rfl (Fw.oneCellsL rfl) (by unfold maxLen; omega) HB.size rfl (by rw [Us.newL_snoc l k hkn, List.flatMap_append]; simp) rfl ?_
                intro A' c' w5 N_ hbb hc _
                replace HB := HB.trans hbb
                clear hbb hc HN
                have HN := N_
                clear N_
                refine Fw.s (Fw.val_assign rfl) rfl ?_
                refine Fw.nil ?_
                refine Fw.X_blockN ?_
                refine hK13 _ _ (Fw.FC.sub (f' := [(4, _), (41, _), (40, _), (39, _), (36, _), (35, _), (34, _), (31, _), (30, _), (29, _), (26, _), (25, _), (24, _), (5, _), (0, _)]) (.cons rfl (.cons rfl (.cons rfl (.cons rfl (.cons rfl (.cons rfl (.cons rfl (.cons rfl (.cons rfl (.cons rfl (.cons rfl (.cons rfl (.cons rfl (.cons rfl (.cons rfl .nil))))))))))))))) ?_)
                refine Fw.region ?_
                refine Fw.s (Fw.val_move rfl) rfl ?_
                refine Fw.s (Fw.val_bin rfl rfl (Fw.b_add (Fw.i64_ok (by omega)))) rfl ?_
                refine Fw.s (Fw.val_assign rfl) rfl ?_
                refine Fw.nil ?_
                refine Fw.roundEnd _ _ (by omega) ⟨k + 1, A', c', rfl, hkn, by rw [List.take_succ_eq_append_getElem hkn, List.all_append, hall]; simpa [Us.cfgB, Us.nodeB] using ⟨⟨hc1, hc2⟩, hc3, hc4, hc5⟩, HN, HB, rfl⟩ (.cons rfl (.cons rfl (.cons rfl .nil)))
    · rintro hk
      refine Fw.nil ?_
      refine hK11 _ _ ?_
      refine Fw.condF rfl ?_
      refine Fw.exit ?_
      refine Fw.X_exit ?_
      refine Fw.X_exit ?_
      refine Fw.X_block ?_
      refine hK7 _ _ ?_
      refine Fw.seq fun _ hK28 => ?_
      refine Fw.region ?_
      refine Fw.s (Fw.val_move rfl) rfl ?_
      refine Fw.s (Fw.val_assign rfl) rfl ?_
      refine Fw.s (Fw.val_assign rfl) rfl ?_
      refine Fw.nil ?_
      refine hK28 _ _ (Fw.FC.sub (f' := [(3, _), (2, _)]) (.cons rfl (.cons rfl .nil)) ?_)
      refine Fw.ret ?_
      refine Fw.ret_ [.tmp 2, .tmp 3] [_, _] Try.results11 (.tmp rfl (.tmp rfl .nil)) ?_
      obtain rfl : k = l.length := by omega
      rw [List.take_length] at hall HN
      have hE : Us.newE l = 0 := by unfold Us.newE; rw [if_neg (by omega), if_pos hall]
      rw [hE]
      exact ⟨_, _, _, rfl, fun _ => ⟨(Us.newL_len l).symm, Fw.RdT.own HN⟩, fun h_ => absurd rfl h_, HB⟩

set_option maxRecDepth 100000 in
set_option maxHeartbeats 1000000 in
theorem rseal_any (w : World) (A : Option Addr) (l : List Us.U) (c : Nat) (h : Fw.RdT w 40 A (l.flatMap Us.U.cells)) (hl : l.length ≤ 256) : Calls Try.prog 25 #[.slice A l.length c] w fun e_ w' => e_ = .returned (.int .u64 (Ck.intsI (Us.sums l))) ∧ Below w.heap.size w w' := by
  refine Fw.calls Try.func25 rfl Try.ntmps25 rfl ?_
  have HB := Below.refl (w.heap.size) w
  refine Fw.seq fun _ hK1 => ?_
  refine Fw.region ?_
  refine Fw.s (Fw.val_assign rfl) rfl ?_
  refine Fw.nil ?_
  refine hK1 _ _ ?_
  refine Fw.seq fun _ hK2 => ?_
  refine Fw.region ?_
  refine Fw.s (Fw.val_assign rfl) rfl ?_
  refine Fw.nil ?_
  refine hK2 _ _ ?_
  refine Fw.seq fun _ hK3 => ?_
  refine Fw.seq fun _ hK4 => ?_
  refine Fw.region ?_
  refine Fw.s (Fw.val_assign rfl) rfl ?_
  refine Fw.nil ?_
  refine hK4 _ _ ?_
  refine Fw.block ?_
  have HN : w.ownsRow w.heap.size 2 1 (.slice none ([] : List Int).length 0) ([] : List Int).length (([] : List Int).map (.int .i64)) := ⟨rfl, .inl ⟨rfl, rfl⟩⟩
  refine Fw.loop (fun m_ f_ W_ => ∃ (k : Nat) (r_ : List Int) (A_ : Option Addr) (c_ : Nat), m_ = l.length - k ∧ k ≤ l.length ∧ r_ = Us.sums (l.take k) ∧ W_.ownsRow w.heap.size 2 1 (.slice A_ r_.length c_) r_.length (r_.map (.int .i64)) ∧ Below (w.heap.size) w W_ ∧ f_ = [(4, .int .i64 k), (3, .slice A_ r_.length c_), (0, .slice A l.length c)]) ⟨_, _, ⟨0, [], none, 0, rfl, Nat.zero_le _, rfl, HN, HB, rfl⟩, (.cons rfl (.cons rfl (.cons rfl .nil)))⟩ ?_
  clear HN HB
  rintro m5_ _ w1 ⟨k, r_, A_, c_, hm5_, hkl, hr, HN, HB, rfl⟩
  refine Fw.seq fun _ hK6 => ?_
  refine Fw.seq fun _ hK7 => ?_
  refine Fw.region ?_
  refine Fw.s (Fw.val_move rfl) rfl ?_
  refine Fw.s (Fw.val_move rfl) rfl ?_
  refine Fw.s (Fw.val_len Try.underlying28 rfl) rfl ?_
  refine Fw.s2 (Fw.val_bin rfl rfl Fw.b_lss) rfl ?_ ?_
  · rintro hk
    refine Fw.nil ?_
    refine hK7 _ _ ?_
    refine Fw.condT rfl ?_
    refine Fw.skip ?_
    refine hK6 _ _ ?_
    refine Fw.seq fun _ hK9 => ?_
    refine Fw.block ?_
    refine Fw.seq fun _ hK10 => ?_
    have hkn : k < l.length := by omega
    obtain ⟨ad, b_, o, hA, hadd, HE⟩ := Fw.rdAt Us.U.len (by decide) (h.1.low HB) k hkn
    have hrl : r_.length ≤ 14 * 256 := by rw [hr, Us.sums_len, List.length_take]; omega
    refine Fw.regionH (by kernel_rfl) ?_
    have R_HE := HE
    have R_HB := HB
    intro w2 hb
    have HS := hb
    replace HN := own_below HN hb (Nat.le_refl _)
    replace HE := HE.low hb
    replace HB := HB.trans (hb.mono HB.size)
    clear hb
    refine Fw.hTake 0 rfl rfl (by kernel_rfl) (by kernel_rfl) (by kernel_rfl) (Fw.yV (Fw.val_move rfl)) rfl ?_
    refine Fw.hTake 1 rfl rfl (by kernel_rfl) (by kernel_rfl) (by kernel_rfl) (Fw.yV (Fw.val_move rfl)) rfl ?_
    refine Fw.hTake 2 rfl rfl (by kernel_rfl) (by kernel_rfl) (by kernel_rfl) (Fw.yV (Fw.val_indexR Try.underlying28 sz40 rfl hA rfl rfl hkn hadd)) rfl ?_
    refine Fw.hTake 3 rfl rfl (by kernel_rfl) (by kernel_rfl) (by kernel_rfl) (Fw.yV (Fw.val_fieldAddr fl40_0 rfl rfl)) rfl ?_
    refine Fw.hTake 4 rfl rfl (by kernel_rfl) (by kernel_rfl) (by kernel_rfl) (Fw.yV (Fw.hLdA ag32 rfl (Fw.rdPart R_HE 0 10) rfl)) rfl ?_
    refine Fw.hTake 5 rfl rfl (by kernel_rfl) (by kernel_rfl) (by kernel_rfl) (Fw.yV (Fw.val_move rfl)) rfl ?_
    refine Fw.hTake 6 rfl rfl (by kernel_rfl) (by kernel_rfl) (by kernel_rfl) (Fw.yV (Fw.val_move rfl)) rfl ?_
    refine Fw.hTake 7 rfl rfl (by kernel_rfl) (by kernel_rfl) (by kernel_rfl) (Fw.yV (Fw.val_indexR Try.underlying28 sz40 rfl hA rfl rfl hkn hadd)) rfl ?_
    refine Fw.hTake 8 rfl rfl (by kernel_rfl) (by kernel_rfl) (by kernel_rfl) (Fw.yV (Fw.val_fieldAddr fl40_1 rfl rfl)) rfl ?_
    refine Fw.hTake 9 rfl rfl (by kernel_rfl) (by kernel_rfl) (by kernel_rfl) (Fw.yV (Fw.hLdA ag36 rfl (Fw.rdPart R_HE 10 5) rfl)) rfl ?_
    refine Fw.hAll2 10 11 (by kernel_rfl) ?_ ?_
    · skip
      refine Fw.hOp 10 rfl ?_
      refine Fw.alloc ze32 rfl ?_
      intro w3 gXu egXu HXu hb
      have rgXu : w1.heap.size ≤ gXu := by have := HS.size; omega
      have lgXu : w.heap.size ≤ gXu := by have := HB.size; omega
      replace HN := own_below HN hb (Nat.le_refl _)
      replace HS := HS.trans (hb.mono HS.size)
      replace HB := HB.trans (hb.mono HB.size)
      clear hb
      clear egXu
      refine Fw.hNext HS ?_
      refine Fw.hAll1 11 (by kernel_rfl) ?_
      refine Fw.hOp 11 rfl ?_
      refine Fw.alloc ze36 rfl ?_
      intro w4 gXo egXo HXo hb
      have rgXo : w1.heap.size ≤ gXo := by have := HS.size; omega
      have n_gXu_gXo : gXu < gXo := by have := HXu.lt; omega
      have lgXo : w.heap.size ≤ gXo := by have := HB.size; omega
      replace HN := own_below HN hb (Nat.le_refl _)
      replace HS := HS.trans (hb.mono HS.size)
      replace HXu := HXu.low hb
      replace HB := HB.trans (hb.mono HB.size)
      clear hb
      clear egXo
      refine Fw.hNext HS ?_
      refine Fw.hAll1 12 (by kernel_rfl) ?_
      refine Fw.hOp 12 rfl ?_
      refine Fw.storeW sz32 rfl rfl HXu rfl rfl (by exact Fw.oneCells rfl) ?_
      intro w5 N_ hc
      replace HN := own_to HN hc (fun g_ h_ e_ => own_ne HN HXu (by decide) (by rw [h_, e_]))
      replace HS := HS.trans (hc.below (B := w1.heap.size) (fun k e => by omega) HS.size)
      replace HXo := HXo.chg hc (by omega)
      replace HB := HB.trans (hc.below (B := w.heap.size) (fun k e => by omega) HB.size)
      clear hc
      clear HXu
      have HXu := N_
      clear N_
      refine Fw.hNext HS ?_
      refine Fw.hAll1 13 (by kernel_rfl) ?_
      refine Fw.hOp 13 rfl ?_
      refine Fw.storeW sz36 rfl rfl HXo rfl rfl (by exact Fw.oneCells rfl) ?_
      intro w6 N_ hc
      replace HN := own_to HN hc (fun g_ h_ e_ => own_ne HN HXo (by decide) (by rw [h_, e_]))
      replace HS := HS.trans (hc.below (B := w1.heap.size) (fun k e => by omega) HS.size)
      replace HXu := HXu.chg hc (by omega)
      replace HB := HB.trans (hc.below (B := w.heap.size) (fun k e => by omega) HB.size)
      clear hc
      clear HXo
      have HXo := N_
      clear N_
      refine Fw.hNext HS ?_
      refine Fw.hDone (by kernel_rfl) ?_
      refine hK10 _ _ (Fw.FC.sub (f' := [(6, _), (5, _), (4, _), (3, _), (0, _)]) (.cons rfl (.cons rfl (.cons rfl (.cons rfl (.cons rfl .nil))))) ?_)
      refine Fw.region ?_
      refine Fw.s (Fw.val_move rfl) rfl ?_
      refine Fw.s (Fw.val_fieldAddr fl32_0 rfl rfl) rfl ?_
      refine Fw.ld sc3 rfl (HXu.cell 0) rfl ?_
      refine Fw.s (Fw.val_fieldAddr fl32_1 rfl rfl) rfl ?_
      refine Fw.ld sc3 rfl (HXu.cell 1) rfl ?_
      refine Fw.s (Fw.val_fieldAddr fl32_2 rfl rfl) rfl ?_
      refine Fw.ld sc3 rfl (HXu.cell 2) rfl ?_
      refine Fw.s (Fw.val_fieldAddr fl32_3 rfl rfl) rfl ?_
      refine Fw.ld sc3 rfl (HXu.cell 3) rfl ?_
      refine Fw.s (Fw.val_fieldAddr fl32_4 rfl rfl) rfl ?_
      refine Fw.ld sc3 rfl (HXu.cell 4) rfl ?_
      refine Fw.s (Fw.val_fieldAddr fl32_5 rfl rfl) rfl ?_
      refine Fw.ld sc2 rfl (HXu.cell 5) rfl ?_
      refine Fw.s (Fw.val_fieldAddr fl32_6 rfl rfl) rfl ?_
      refine Fw.ld sc2 rfl (HXu.cell 6) rfl ?_
      refine Fw.s (Fw.val_fieldAddr fl32_7 rfl rfl) rfl ?_
      refine Fw.ld sc2 rfl (HXu.cell 7) rfl ?_
      refine Fw.s (Fw.val_fieldAddr fl32_8 rfl rfl) rfl ?_
      refine Fw.ld sc2 rfl (HXu.cell 8) rfl ?_
      refine Fw.s (Fw.val_fieldAddr fl32_9 rfl rfl) rfl ?_
      refine Fw.ld sc2 rfl (HXu.cell 9) rfl ?_
      refine Fw.s (Fw.val_fieldAddr fl36_1 rfl rfl) rfl ?_
      refine Fw.ld sc2 rfl (HXo.cell 1) rfl ?_
      refine Fw.s (Fw.val_fieldAddr fl36_2 rfl rfl) rfl ?_
      refine Fw.ld sc3 rfl (HXo.cell 2) rfl ?_
      refine Fw.s (Fw.val_fieldAddr fl36_3 rfl rfl) rfl ?_
      refine Fw.ld sc2 rfl (HXo.cell 3) rfl ?_
      refine Fw.s (Fw.val_fieldAddr fl36_4 rfl rfl) rfl ?_
      refine Fw.ld sc3 rfl (HXo.cell 4) rfl ?_
      refine Fw.buildSlice [_, _, _, _, _, _, _, _, _, _, _, _, _, _] sl97 rfl rfl (by exact Fw.allSz rfl) (by decide) rfl ?_
      intro w7 gS52 egS52 HS52 hb
      have n_gXu_gS52 : gXu < gS52 := by have := HXu.lt; omega
      have n_gXo_gS52 : gXo < gS52 := by have := HXo.lt; omega
      have lgS52 : w.heap.size ≤ gS52 := by have := HB.size; omega
      replace HN := own_below HN hb (Nat.le_refl _)
      replace HXu := HXu.low hb
      replace HXo := HXo.low hb
      replace HB := HB.trans (hb.mono HB.size)
      clear hb
      clear egS52
      refine Fw.append (r_ ++ (Us.s1 l[k] ++ (Us.s2 l[k] ++ Us.s3 l[k]))).length ((r_ ++ (Us.s1 l[k] ++ (Us.s2 l[k] ++ Us.s3 l[k]))).map (.int .i64)) sl97 rfl rfl HN (show Rd _ _ ((Us.s1 l[k] ++ (Us.s2 l[k] ++ Us.s3 l[k])).map (.int .i64)) from Fw.rdBlk HS52) rfl (Fw.oneCellsL rfl) (by unfold maxLen; omega) HB.size (by rw [List.length_append]; rfl) List.map_append.symm rfl ?_
      intro A' c' w8 N_ hbb hc _
      replace HB := HB.trans hbb
      clear hbb hc HN
      have HN := N_
      clear N_
      refine Fw.s (Fw.val_assign rfl) rfl ?_
      refine Fw.nil ?_
      refine Fw.X_blockN ?_
      refine hK9 _ _ (Fw.FC.sub (f' := [(3, _), (4, _), (0, _)]) (.cons rfl (.cons rfl (.cons rfl .nil))) ?_)
      refine Fw.region ?_
      refine Fw.s (Fw.val_move rfl) rfl ?_
      refine Fw.s (Fw.val_bin rfl rfl (Fw.b_add (Fw.i64_ok (by omega)))) rfl ?_
      refine Fw.s (Fw.val_assign rfl) rfl ?_
      refine Fw.nil ?_
      refine Fw.roundEnd _ _ (by omega) ⟨k + 1, r_ ++ (Us.s1 l[k] ++ (Us.s2 l[k] ++ Us.s3 l[k])), A', c', rfl, hkn, by rw [hr, Us.sums_snoc l k hkn]; simp [Us.s1, Us.s2, Us.s3], HN, HB, rfl⟩ (.cons rfl (.cons rfl (.cons rfl .nil)))
    · skip
      refine Fw.hOp 11 rfl ?_
      refine Fw.alloc ze36 rfl ?_
      intro w9 gXo egXo HXo hb
      have rgXo : w1.heap.size ≤ gXo := by have := HS.size; omega
      have lgXo : w.heap.size ≤ gXo := by have := HB.size; omega
      replace HN := own_below HN hb (Nat.le_refl _)
      replace HS := HS.trans (hb.mono HS.size)
      replace HB := HB.trans (hb.mono HB.size)
      clear hb
      clear egXo
      refine Fw.hNext HS ?_
      refine Fw.hAll1 10 (by kernel_rfl) ?_
      refine Fw.hOp 10 rfl ?_
      refine Fw.alloc ze32 rfl ?_
      intro w10 gXu egXu HXu hb
      have rgXu : w1.heap.size ≤ gXu := by have := HS.size; omega
      have n_gXo_gXu : gXo < gXu := by have := HXo.lt; omega
      have lgXu : w.heap.size ≤ gXu := by have := HB.size; omega
      replace HN := own_below HN hb (Nat.le_refl _)
      replace HS := HS.trans (hb.mono HS.size)
      replace HXo := HXo.low hb
      replace HB := HB.trans (hb.mono HB.size)
      clear hb
      clear egXu
      refine Fw.hNext HS ?_
      refine Fw.hAll1 12 (by kernel_rfl) ?_
      refine Fw.hOp 12 rfl ?_
      refine Fw.storeW sz32 rfl rfl HXu rfl rfl (by exact Fw.oneCells rfl) ?_
      intro w11 N_ hc
      replace HN := own_to HN hc (fun g_ h_ e_ => own_ne HN HXu (by decide) (by rw [h_, e_]))
      replace HS := HS.trans (hc.below (B := w1.heap.size) (fun k e => by omega) HS.size)
      replace HXo := HXo.chg hc (by omega)
      replace HB := HB.trans (hc.below (B := w.heap.size) (fun k e => by omega) HB.size)
      clear hc
      clear HXu
      have HXu := N_
      clear N_
      refine Fw.hNext HS ?_
      refine Fw.hAll1 13 (by kernel_rfl) ?_
      refine Fw.hOp 13 rfl ?_
      refine Fw.storeW sz36 rfl rfl HXo rfl rfl (by exact Fw.oneCells rfl) ?_
      intro w12 N_ hc
      replace HN := own_to HN hc (fun g_ h_ e_ => own_ne HN HXo (by decide) (by rw [h_, e_]))
      replace HS := HS.trans (hc.below (B := w1.heap.size) (fun k e => by omega) HS.size)
      replace HXu := HXu.chg hc (by omega)
      replace HB := HB.trans (hc.below (B := w.heap.size) (fun k e => by omega) HB.size)
      clear hc
      clear HXo
      have HXo := N_
      clear N_
      refine Fw.hNext HS ?_
      refine Fw.hDone (by kernel_rfl) ?_
      refine hK10 _ _ (Fw.FC.sub (f' := [(5, _), (6, _), (4, _), (3, _), (0, _)]) (.cons rfl (.cons rfl (.cons rfl (.cons rfl (.cons rfl .nil))))) ?_)
      refine Fw.region ?_
      refine Fw.s (Fw.val_move rfl) rfl ?_
      refine Fw.s (Fw.val_fieldAddr fl32_0 rfl rfl) rfl ?_
      refine Fw.ld sc3 rfl (HXu.cell 0) rfl ?_
      refine Fw.s (Fw.val_fieldAddr fl32_1 rfl rfl) rfl ?_
      refine Fw.ld sc3 rfl (HXu.cell 1) rfl ?_
      refine Fw.s (Fw.val_fieldAddr fl32_2 rfl rfl) rfl ?_
      refine Fw.ld sc3 rfl (HXu.cell 2) rfl ?_
      refine Fw.s (Fw.val_fieldAddr fl32_3 rfl rfl) rfl ?_
      refine Fw.ld sc3 rfl (HXu.cell 3) rfl ?_
      refine Fw.s (Fw.val_fieldAddr fl32_4 rfl rfl) rfl ?_
      refine Fw.ld sc3 rfl (HXu.cell 4) rfl ?_
      refine Fw.s (Fw.val_fieldAddr fl32_5 rfl rfl) rfl ?_
      refine Fw.ld sc2 rfl (HXu.cell 5) rfl ?_
      refine Fw.s (Fw.val_fieldAddr fl32_6 rfl rfl) rfl ?_
      refine Fw.ld sc2 rfl (HXu.cell 6) rfl ?_
      refine Fw.s (Fw.val_fieldAddr fl32_7 rfl rfl) rfl ?_
      refine Fw.ld sc2 rfl (HXu.cell 7) rfl ?_
      refine Fw.s (Fw.val_fieldAddr fl32_8 rfl rfl) rfl ?_
      refine Fw.ld sc2 rfl (HXu.cell 8) rfl ?_
      refine Fw.s (Fw.val_fieldAddr fl32_9 rfl rfl) rfl ?_
      refine Fw.ld sc2 rfl (HXu.cell 9) rfl ?_
      refine Fw.s (Fw.val_fieldAddr fl36_1 rfl rfl) rfl ?_
      refine Fw.ld sc2 rfl (HXo.cell 1) rfl ?_
      refine Fw.s (Fw.val_fieldAddr fl36_2 rfl rfl) rfl ?_
      refine Fw.ld sc3 rfl (HXo.cell 2) rfl ?_
      refine Fw.s (Fw.val_fieldAddr fl36_3 rfl rfl) rfl ?_
      refine Fw.ld sc2 rfl (HXo.cell 3) rfl ?_
      refine Fw.s (Fw.val_fieldAddr fl36_4 rfl rfl) rfl ?_
      refine Fw.ld sc3 rfl (HXo.cell 4) rfl ?_
      refine Fw.buildSlice [_, _, _, _, _, _, _, _, _, _, _, _, _, _] sl97 rfl rfl (by exact Fw.allSz rfl) (by decide) rfl ?_
      intro w13 gS52 egS52 HS52 hb
      have n_gXo_gS52 : gXo < gS52 := by have := HXo.lt; omega
      have n_gXu_gS52 : gXu < gS52 := by have := HXu.lt; omega
      have lgS52 : w.heap.size ≤ gS52 := by have := HB.size; omega
      replace HN := own_below HN hb (Nat.le_refl _)
      replace HXo := HXo.low hb
      replace HXu := HXu.low hb
      replace HB := HB.trans (hb.mono HB.size)
      clear hb
      clear egS52
      refine Fw.append (r_ ++ (Us.s1 l[k] ++ (Us.s2 l[k] ++ Us.s3 l[k]))).length ((r_ ++ (Us.s1 l[k] ++ (Us.s2 l[k] ++ Us.s3 l[k]))).map (.int .i64)) sl97 rfl rfl HN (show Rd _ _ ((Us.s1 l[k] ++ (Us.s2 l[k] ++ Us.s3 l[k])).map (.int .i64)) from Fw.rdBlk HS52) rfl (Fw.oneCellsL rfl) (by unfold maxLen; omega) HB.size (by rw [List.length_append]; rfl) List.map_append.symm rfl ?_
      intro A' c' w14 N_ hbb hc _
      replace HB := HB.trans hbb
      clear hbb hc HN
      have HN := N_
      clear N_
      refine Fw.s (Fw.val_assign rfl) rfl ?_
      refine Fw.nil ?_
      refine Fw.X_blockN ?_
      refine hK9 _ _ (Fw.FC.sub (f' := [(3, _), (4, _), (0, _)]) (.cons rfl (.cons rfl (.cons rfl .nil))) ?_)
      refine Fw.region ?_
      refine Fw.s (Fw.val_move rfl) rfl ?_
      refine Fw.s (Fw.val_bin rfl rfl (Fw.b_add (Fw.i64_ok (by omega)))) rfl ?_
      refine Fw.s (Fw.val_assign rfl) rfl ?_
      refine Fw.nil ?_
      refine Fw.roundEnd _ _ (by omega) ⟨k + 1, r_ ++ (Us.s1 l[k] ++ (Us.s2 l[k] ++ Us.s3 l[k])), A', c', rfl, hkn, by rw [hr, Us.sums_snoc l k hkn]; simp [Us.s1, Us.s2, Us.s3], HN, HB, rfl⟩ (.cons rfl (.cons rfl (.cons rfl .nil)))
  · rintro hk
    refine Fw.nil ?_
    refine hK7 _ _ ?_
    refine Fw.condF rfl ?_
    refine Fw.exit ?_
    refine Fw.X_exit ?_
    refine Fw.X_exit ?_
    refine Fw.X_block ?_
    refine hK3 _ _ ?_
    refine Fw.seq fun _ hK13 => ?_
    obtain rfl : k = l.length := by omega
    rw [List.take_length] at hr
    subst hr
    refine Fw.region ?_
    refine Fw.s (Fw.val_move rfl) rfl ?_
    refine Fw.call cf48 rfl rfl (words_any A_ (Us.sums l) c_ _ (Rd.of_own HN) (by have := Us.sums_len l; omega)) ?_
    rintro e_ w15 ⟨rfl, hb⟩
    refine ⟨_, rfl, ?_⟩
    replace HN := own_below HN hb (Nat.le_refl _)
    replace HB := HB.trans (hb.mono HB.size)
    clear hb
    refine Fw.s (Fw.val_assign rfl) rfl ?_
    refine Fw.nil ?_
    refine hK13 _ _ (Fw.FC.sub (f' := [(2, _)]) (.cons rfl .nil) ?_)
    refine Fw.ret ?_
    refine Fw.ret_ [.tmp 2] [_] Try.results25 (.tmp rfl .nil) ?_
    exact ⟨rfl, HB⟩

end Go.Proofs.Ytmohhociomghhaa
