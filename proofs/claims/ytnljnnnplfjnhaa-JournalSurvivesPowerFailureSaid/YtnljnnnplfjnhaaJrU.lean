/- Layer 20: the law JournalDetectsChange. -/
import Derived.Test.YtnljnnnplfjnhaaJrV
import Derived.Test.YtnljnnnplfjnhaaJrS
namespace Go.Proofs.Ytnljnnnplfjnhaa
set_option linter.unusedSimpArgs false
set_option linter.unusedVariables false
open Go.RowKit

set_option maxRecDepth 100000 in
set_option maxHeartbeats 1000000 in
theorem detects_any (w : World) (A : Option Addr) (l : List Rv) (c : Nat) (h : Recs w A l) (hcap : l.length ≤ c) (hlm : l.length ≤ maxLen) (hbig : ∀ v ∈ l, v.b.length ≤ 140737488355328) (hok : ∀ v ∈ l, v.r.ok) (at_ by_ : Int) (hat : 0 ≤ at_ ∧ at_ ≤ 65535) (hby : 0 ≤ by_ ∧ by_ ≤ 255) : Calls Try.prog 6 #[.slice A l.length c, .int .u16 at_, .int .u8 by_] w fun e_ w' => e_ = .returned (.bool true) ∧ Below w.heap.size w w' := by
  refine Fw.calls Try.func6 rfl Try.ntmps6 rfl ?_
  have HB := Below.refl (w.heap.size) w
  refine Fw.seq fun _ hK1 => ?_
  refine Fw.region ?_
  refine Fw.s (Fw.val_assign rfl) rfl ?_
  refine Fw.nil ?_
  refine hK1 _ _ ?_
  refine Fw.seq fun _ hK2 => ?_
  refine Fw.seq fun _ hK3 => ?_
  refine Fw.region ?_
  refine Fw.call cf10 rfl rfl (alive_any _) ?_
  rintro e_ w1 ⟨rfl, hb⟩
  refine ⟨_, rfl, ?_⟩
  replace HB := HB.trans (hb.mono HB.size)
  clear hb
  refine Fw.bT (by rfl) ?_
  refine Fw.s (Fw.val_not rfl) rfl ?_
  refine Fw.nil ?_
  refine hK3 _ _ ?_
  refine Fw.condF rfl ?_
  refine Fw.skip ?_
  refine hK2 _ _ ?_
  refine Fw.seq fun _ hK4 => ?_
  refine Fw.seq fun _ hK5 => ?_
  refine Fw.region ?_
  refine Fw.s (Fw.val_move rfl) rfl ?_
  refine Fw.call cf11 rfl rfl (jsmall_any _ A l c (h.low HB) hlm 20 (by decide) hbig) ?_
  rintro e_ w2 ⟨rfl, hb⟩
  refine ⟨_, rfl, ?_⟩
  replace HB := HB.trans (hb.mono HB.size)
  clear hb
  refine Fw.b2 ?_ ?_
  · rintro hsm
    refine Fw.s (Fw.val_not rfl) rfl ?_
    refine Fw.s (Fw.val_move rfl) rfl ?_
    refine Fw.gT (d := 21) rfl rfl ?_
    refine Fw.s (Fw.val_move rfl) rfl ?_
    refine Fw.gT (d := 21) rfl rfl ?_
    refine Fw.s (Fw.val_len Try.underlying22 rfl) rfl ?_
    refine Fw.gT (d := 21) rfl rfl ?_
    refine Fw.s2 (Fw.val_bin rfl rfl Fw.b_eql) rfl ?_ ?_
    · rintro hl00
      refine Fw.s (Fw.val_pickF rfl rfl) rfl ?_
      refine Fw.s (Fw.val_move rfl) rfl ?_
      refine Fw.gF (d := 26) rfl rfl rfl rfl ?_
      refine Fw.gF (d := 26) rfl rfl rfl rfl ?_
      refine Fw.s (Fw.val_pickT rfl rfl) rfl ?_
      refine Fw.nil ?_
      refine hK5 _ _ (Fw.FC.sub (f' := [(29, _), (0, _), (1, _), (2, _)]) (.cons rfl (.cons rfl (.cons rfl (.cons rfl .nil)))) ?_)
      refine Fw.condT rfl ?_
      refine Fw.seq fun _ hK7 => ?_
      refine Fw.region ?_
      refine Fw.s (Fw.val_assign rfl) rfl ?_
      refine Fw.nil ?_
      refine hK7 _ _ ?_
      refine Fw.ret ?_
      refine Fw.X_ret ?_
      refine Fw.ret_ [.tmp 6] [_] Try.results6 (.tmp rfl .nil) ?_
      exact ⟨rfl, HB⟩
    · rintro hl00
      refine Fw.s (Fw.val_pickF rfl rfl) rfl ?_
      refine Fw.s (Fw.val_move rfl) rfl ?_
      refine Fw.gT (d := 26) rfl rfl ?_
      refine Fw.s (Fw.val_move rfl) rfl ?_
      refine Fw.gT (d := 26) rfl rfl ?_
      refine Fw.s2 (Fw.val_bin rfl rfl Fw.b_eql) rfl ?_ ?_
      · rintro hby0
        refine Fw.s (Fw.val_pickF rfl rfl) rfl ?_
        refine Fw.nil ?_
        refine hK5 _ _ (Fw.FC.sub (f' := [(29, _), (0, _), (1, _), (2, _)]) (.cons rfl (.cons rfl (.cons rfl (.cons rfl .nil)))) ?_)
        refine Fw.condT rfl ?_
        refine Fw.seq fun _ hK9 => ?_
        refine Fw.region ?_
        refine Fw.s (Fw.val_assign rfl) rfl ?_
        refine Fw.nil ?_
        refine hK9 _ _ ?_
        refine Fw.ret ?_
        refine Fw.X_ret ?_
        refine Fw.ret_ [.tmp 6] [_] Try.results6 (.tmp rfl .nil) ?_
        exact ⟨rfl, HB⟩
      · rintro hby0
        refine Fw.s (Fw.val_pickF rfl rfl) rfl ?_
        refine Fw.nil ?_
        refine hK5 _ _ (Fw.FC.sub (f' := [(29, _), (0, _), (1, _), (2, _)]) (.cons rfl (.cons rfl (.cons rfl (.cons rfl .nil)))) ?_)
        refine Fw.condF rfl ?_
        refine Fw.skip ?_
        refine hK4 _ _ ?_
        refine Fw.seq fun _ hK10 => ?_
        obtain ⟨hl20, hbs⟩ := small_use hsm
        have hokl := okL_of hok hbs
        have hen : (Jr.encs Jr.s0 (rs l)).length ≤ 164400 := Nat.le_trans (encs_le hbs Jr.s0) (by omega)
        have hl0 : 0 < l.length := by omega
        have hpos : 0 < (Jr.encs Jr.s0 (rs l)).length := by
          have h1 := rs_snoc l 0 hl0
          have h2 := Jr.encs_take_le (rs l) Jr.s0 1
          rw [← rs_take, h1, Jr.encs_snoc, List.length_append] at h2
          have h3 := Jr.one_pos (Jr.sealF Jr.s0 (rs (l.take 0))) l[0].r
          omega
        refine Fw.region ?_
        refine Fw.s (Fw.val_move rfl) rfl ?_
        refine Fw.call cf14 rfl rfl (jbytes_ok _ A l c (h.low HB) (by omega) hcap hokl (fun v hv => Nat.le_trans (hbs v hv) (by decide))) ?_
        rintro e_ w3 ⟨A7, c7, rfl, H7, hb⟩
        refine ⟨_, rfl, ?_⟩
        replace H7 := own_base H7 (show w.heap.size ≤ _ from HB.size)
        replace HB := HB.trans (hb.mono HB.size)
        clear hb
        obtain ⟨gE, rfl, hgE, -⟩ := own_addr H7 (by omega)
        refine Fw.s (Fw.val_move rfl) rfl ?_
        refine Fw.s (Fw.val_extract rfl rfl) rfl ?_
        refine Fw.s (Fw.val_extract rfl rfl) rfl ?_
        refine Fw.s (Fw.val_assign rfl) rfl ?_
        refine Fw.s (Fw.val_assign rfl) rfl ?_
        refine Fw.nil ?_
        refine hK10 _ _ (Fw.FC.sub (f' := [(7, _), (0, _), (1, _), (2, _)]) (.cons rfl (.cons rfl (.cons rfl (.cons rfl .nil)))) ?_)
        refine Fw.seq fun _ hK11 => ?_
        obtain ⟨K, hK⟩ : ∃ K : Nat, (K : Int) = at_ % ((Jr.encs Jr.s0 (rs l)).length : Nat) := ⟨(at_ % ((Jr.encs Jr.s0 (rs l)).length : Nat)).toNat, Int.toNat_of_nonneg (Int.emod_nonneg _ (by omega))⟩
        have hKl : K < (Jr.encs Jr.s0 (rs l)).length := by have := Int.emod_lt_of_pos at_ (show (0 : Int) < ((Jr.encs Jr.s0 (rs l)).length : Nat) by omega); omega
        have hrem : at_.tmod ((Jr.encs Jr.s0 (rs l)).length : Nat) = (K : Nat) := by rw [Int.tmod_eq_emod_of_nonneg hat.1]; exact hK.symm
        refine Fw.region ?_
        refine Fw.s (Fw.val_move rfl) rfl ?_
        refine Fw.s (Fw.val_conv Try.underlying54 Try.underlying3 rfl ((IntWalk.i64_in _ (by omega)))) rfl ?_
        refine Fw.s (Fw.val_move rfl) rfl ?_
        refine Fw.s (Fw.val_len Try.underlying26 rfl) rfl ?_
        refine Fw.s (Fw.val_bin rfl rfl (Fw.b_rem (by omega) hrem)) rfl ?_
        refine Fw.s (Fw.val_assign rfl) rfl ?_
        refine Fw.nil ?_
        refine hK11 _ _ ?_
        refine Fw.seq fun _ hK12 => ?_
        refine Fw.region ?_
        refine Fw.s (Fw.val_assign rfl) rfl ?_
        refine Fw.s (Fw.val_assign rfl) rfl ?_
        refine Fw.nil ?_
        refine hK12 _ _ ?_
        refine Fw.seq fun _ hK13 => ?_
        refine Fw.block ?_
        refine Fw.loop (fun m_ f_ W_ => ∃ (i : Nat), m_ = l.length - i ∧ i ≤ l.length ∧ (Jr.encs Jr.s0 (rs (l.take i))).length ≤ K ∧ W_.ownsRow w.heap.size 5 1 (.slice (some ⟨gE, 0, none⟩) (Jr.encs Jr.s0 (rs l)).length c7) (Jr.encs Jr.s0 (rs l)).length ((Jr.encs Jr.s0 (rs l)).map (.int .u8)) ∧ Below (w.heap.size) w W_ ∧ f_ = [(11, .int .i64 (((Jr.encs Jr.s0 (rs (l.take i))).length : Nat) : Int)), (10, .int .i64 i), (9, .int .i64 K), (7, .slice (some ⟨gE, 0, none⟩) (Jr.encs Jr.s0 (rs l)).length c7), (0, .slice A l.length c), (2, .int .u8 by_)]) ⟨_, _, ⟨0, rfl, Nat.zero_le _, Nat.zero_le _, H7, HB, rfl⟩, (.cons rfl (.cons rfl (.cons rfl (.cons rfl (.cons rfl (.cons rfl .nil))))))⟩ ?_
        clear H7 HB
        rintro m14_ _ w4 ⟨i, hm14_, hil, hfk, H7, HB, rfl⟩
        refine Fw.block ?_
        refine Fw.seq fun _ hK15 => ?_
        have hin_ : i < l.length := by
          refine Nat.lt_of_le_of_ne hil fun e => ?_
          subst e
          rw [List.take_length] at hfk
          omega
        have hvk : l[i].r.ok ∧ l[i].r.b.length ≤ 100000 := hokl _ (List.mem_map.2 ⟨_, List.getElem_mem hin_, rfl⟩)
        have hbi : l[i].b.length ≤ 4000 := hbs _ (List.getElem_mem hin_)
        have htl : (l.take i).length = i := by rw [List.length_take]; omega
        have hstep : (Jr.encs Jr.s0 (rs (l.take (i + 1)))).length = (Jr.encs Jr.s0 (rs (l.take i))).length + (Jr.one (Jr.sealF Jr.s0 (rs (l.take i))) ⟨l[i].k, l[i].b⟩).length := by rw [rs_snoc l i hin_, Jr.encs_snoc, List.length_append]; rfl
        have hen2 : (Jr.encs Jr.s0 (rs (l.take (i + 1)))).length ≤ (Jr.encs Jr.s0 (rs l)).length := by rw [rs_take]; exact Jr.encs_take_le _ _ _
        obtain ⟨ad, b_, o_, hA, hadd, HE⟩ := Fw.rdAt Rv.len (by decide) (h.low HB).1 i hin_
        refine Fw.regionH (by kernel_rfl) ?_
        have R_HE := HE
        have R_HB := HB
        intro w5 hb
        have HS := hb
        replace H7 := own_below H7 hb (Nat.le_refl _)
        replace HE := HE.low hb
        replace HB := HB.trans (hb.mono HB.size)
        clear hb
        refine Fw.hTake 0 rfl rfl (by kernel_rfl) (by kernel_rfl) (by kernel_rfl) (Fw.yV (Fw.val_move rfl)) rfl ?_
        refine Fw.hTake 1 rfl rfl (by kernel_rfl) (by kernel_rfl) (by kernel_rfl) (Fw.yV (Fw.val_move rfl)) rfl ?_
        refine Fw.hTake 4 rfl rfl (by kernel_rfl) (by kernel_rfl) (by kernel_rfl) (Fw.yV (Fw.val_move rfl)) rfl ?_
        refine Fw.hTake 5 rfl rfl (by kernel_rfl) (by kernel_rfl) (by kernel_rfl) (Fw.yV (Fw.val_move rfl)) rfl ?_
        refine Fw.hTake 6 rfl rfl (by kernel_rfl) (by kernel_rfl) (by kernel_rfl) (Fw.yV (Fw.val_indexR Try.underlying22 sz28 rfl hA rfl rfl hin_ hadd)) rfl ?_
        refine Fw.hTake 7 rfl rfl (by kernel_rfl) (by kernel_rfl) (by kernel_rfl) (Fw.yV (Fw.hLdA ag28 rfl (R_HE) rfl)) rfl ?_
        refine Fw.hAll1 2 (by kernel_rfl) ?_
        refine Fw.hOp 2 rfl ?_
        refine Fw.s (Fw.val_sliceTo (m := i) Try.underlying22 sz28 rfl rfl rfl (by omega)) rfl ?_
        refine Fw.hNext HS ?_
        refine Fw.hAll1 3 (by kernel_rfl) ?_
        refine Fw.hOp 3 rfl ?_
        refine Fw.call cf16 rfl rfl (by have := seal_any w5 A (l.take i) c ((h.low HB).take i) (by rw [htl]; omega) (fun r hr => by rw [rs_take] at hr; exact hokl r (List.mem_of_mem_take hr)); rw [htl] at this; exact this) ?_
        rintro e_ w6 ⟨rfl, hb_⟩
        refine ⟨_, rfl, ?_⟩
        replace H7 := own_below H7 hb_ (Nat.le_refl _)
        replace HE := HE.low hb_
        replace HS := HS.trans (hb_.mono HS.size)
        replace HB := HB.trans (hb_.mono HB.size)
        clear hb_
        refine Fw.hNext HS ?_
        refine Fw.hAll1 8 (by kernel_rfl) ?_
        refine Fw.hOp 8 rfl ?_
        refine Fw.call cf26 rfl rfl (jone_any _ (Jr.sealF Jr.s0 (rs (l.take i))) l[i].k l[i].A l[i].b l[i].c ((h.low HB).at i hin_) (by omega) (Jr.sealF_U64 _ _ Jr.s0_U64) hvk.1.1 hvk.1.2) ?_
        rintro e_ w7 ⟨A48, c48, rfl, -, hb_⟩
        refine ⟨_, rfl, ?_⟩
        replace H7 := own_below H7 hb_ (Nat.le_refl _)
        replace HE := HE.low hb_
        replace HS := HS.trans (hb_.mono HS.size)
        replace HB := HB.trans (hb_.mono HB.size)
        clear hb_
        refine Fw.hNext HS ?_
        refine Fw.hTake 9 rfl rfl (by kernel_rfl) (by kernel_rfl) (by kernel_rfl) (Fw.yV (Fw.val_len Try.underlying26 rfl)) rfl ?_
        refine Fw.hTake 10 rfl rfl (by kernel_rfl) (by kernel_rfl) (by kernel_rfl) (Fw.yV (Fw.val_assign rfl)) rfl ?_
        refine Fw.hDone (by kernel_rfl) ?_
        refine hK15 _ _ (Fw.FC.sub (f' := [(12, _), (11, _), (10, _), (9, _), (7, _), (0, _), (2, _)]) (.cons rfl (.cons rfl (.cons rfl (.cons rfl (.cons rfl (.cons rfl (.cons rfl .nil))))))) ?_)
        refine Fw.seq fun _ hK17 => ?_
        refine Fw.seq fun _ hK18 => ?_
        refine Fw.region ?_
        refine Fw.s (Fw.val_move rfl) rfl ?_
        refine Fw.s (Fw.val_move rfl) rfl ?_
        refine Fw.s (Fw.val_move rfl) rfl ?_
        refine Fw.s (Fw.val_bin rfl rfl (Fw.b_add (Fw.i64_ok (by omega)))) rfl ?_
        refine Fw.s2 (Fw.val_bin rfl rfl Fw.b_lss) rfl ?_ ?_
        · rintro hin2
          refine Fw.nil ?_
          refine hK18 _ _ ?_
          refine Fw.condT rfl ?_
          refine Fw.seq fun _ hK20 => ?_
          refine Fw.seq fun _ hK21 => ?_
          refine Fw.region ?_
          refine Fw.s (Fw.val_move rfl) rfl ?_
          refine Fw.s (Fw.val_move rfl) rfl ?_
          refine Fw.s (Fw.val_move rfl) rfl ?_
          refine Fw.s (Fw.val_bin rfl rfl (Fw.b_add (Fw.i64_ok (by omega)))) rfl ?_
          refine Fw.s (Fw.val_bin rfl rfl (Fw.b_sub (Fw.i64_ok (by omega)))) rfl ?_
          refine Fw.s (Fw.val_move rfl) rfl ?_
          refine Fw.s (Fw.val_move rfl) rfl ?_
          refine Fw.s (Fw.val_indexR Try.underlying22 sz28 rfl hA rfl rfl hin_ hadd) rfl ?_
          refine Fw.s (Fw.val_fieldAddr fl28_1 rfl rfl) rfl ?_
          refine Fw.ld sc26 rfl (Fw.rdCell HE 1 rfl) rfl ?_
          refine Fw.s (Fw.val_len Try.underlying26 rfl) rfl ?_
          refine Fw.s (Fw.val_bin rfl rfl (Fw.b_sub (Fw.i64_ok (by omega)))) rfl ?_
          refine Fw.s2 (Fw.val_bin rfl rfl Fw.b_lss) rfl ?_ ?_
          · rintro hlen
            refine Fw.nil ?_
            refine hK21 _ _ (Fw.FC.sub (f' := [(67, _), (11, _), (10, _), (9, _), (7, _), (0, _), (2, _)]) (.cons rfl (.cons rfl (.cons rfl (.cons rfl (.cons rfl (.cons rfl (.cons rfl .nil))))))) ?_)
            refine Fw.condT rfl ?_
            refine Fw.seq fun _ hK24 => ?_
            refine Fw.region ?_
            refine Fw.s (Fw.val_assign rfl) rfl ?_
            refine Fw.nil ?_
            refine hK24 _ _ (Fw.FC.sub (f' := [(6, _)]) (.cons rfl .nil) ?_)
            refine Fw.ret ?_
            refine Fw.X_ret ?_
            refine Fw.X_ret ?_
            refine Fw.X_blockR ?_
            refine Fw.X_ret ?_
            refine Fw.X_blockR ?_
            refine Fw.X_ret ?_
            refine Fw.ret_ [.tmp 6] [_] Try.results6 (.tmp rfl .nil) ?_
            exact ⟨rfl, HB⟩
          · rintro hlen
            refine Fw.nil ?_
            refine hK21 _ _ (Fw.FC.sub (f' := [(67, _), (11, _), (10, _), (9, _), (7, _), (0, _), (2, _)]) (.cons rfl (.cons rfl (.cons rfl (.cons rfl (.cons rfl (.cons rfl (.cons rfl .nil))))))) ?_)
            refine Fw.condF rfl ?_
            refine Fw.skip ?_
            refine hK20 _ _ ?_
            refine Fw.exit ?_
            refine Fw.X_exit ?_
            refine Fw.X_blockO rfl ?_
            refine Fw.X_exit ?_
            refine Fw.X_block ?_
            refine hK13 _ _ ?_
            refine Fw.seq fun _ hK25 => ?_
            have hEb : Ck.Bts (Jr.encs Jr.s0 (rs l)) := Jr.encs_bts fun r hr => (hokl r hr).1
            have HE5 : _ := (show w7.cell? ⟨gE, K, none⟩ = some (.int .u8 (Jr.encs Jr.s0 (rs l))[K]) by rw [H7.cellAt K (by omega)]; simp [hKl])
            have HE6 := HE5
            obtain ⟨x, hxe⟩ : ∃ x, x = bits .xor .u8 (Jr.encs Jr.s0 (rs l))[K] by_ := ⟨_, rfl⟩
            have hx : 0 ≤ x ∧ x < 256 := by rw [hxe]; exact Ck.xor8_bd _ _
            have hxne : x ≠ (Jr.encs Jr.s0 (rs l))[K] := by rw [hxe]; exact Ck.xor8_ne _ _ (hEb _ (List.getElem_mem hKl)) (by omega) (by omega)
            have hol : (Jr.one (Jr.sealF Jr.s0 (rs (l.take i))) ⟨l[i].k, l[i].b⟩).length = (Wr.enc (l[i].b.length : Nat)).length + l[i].b.length + 9 := Jr.one_len _ _
            have hdet : Jr.Val Jr.s0 ((Jr.encs Jr.s0 (rs l)).set K x) ((rs l).take i) (Jr.encs Jr.s0 ((rs l).take i)).length := by
              have hri : i < (rs l).length := by rw [rs_len]; exact hin_
              have hri2 : (rs l)[i] = (⟨l[i].k, l[i].b⟩ : Jr.R) := rs_at l i hin_
              refine Jr.detect (fun r hr => ⟨(hokl r hr).1, by obtain ⟨v, hv, rfl⟩ := List.mem_map.1 hr; exact Nat.le_trans (hbs v hv) (by decide)⟩) hri hx ?_ ?_ ?_
              · rw [hri2, ← rs_take]; show _ + (Wr.enc (l[i].b.length : Nat)).length ≤ K; omega
              · rw [hri2, ← rs_take]; omega
              · rw [List.getElem?_eq_getElem hKl]; exact fun h_ => hxne (Option.some.inj h_).symm
            rw [← rs_take] at hdet
            refine Fw.region ?_
            refine Fw.s (Fw.val_move rfl) rfl ?_
            refine Fw.s (Fw.val_move rfl) rfl ?_
            refine Fw.s (Fw.val_indexR Try.underlying26 sz5 rfl rfl rfl rfl hKl (by rw [Nat.mul_one]; exact Fw.add0 gE K)) rfl ?_
            refine Fw.ld sc5 rfl (HE5) rfl ?_
            refine Fw.s (Fw.val_move rfl) rfl ?_
            refine Fw.s (Fw.val_bin rfl rfl (Fw.b_xor hxe.symm)) rfl ?_
            refine Fw.s (Fw.val_indexR Try.underlying26 sz5 rfl rfl rfl rfl hKl (by rw [Nat.mul_one]; exact Fw.add0 gE K)) rfl ?_
            refine Fw.storeR sz5 rfl rfl H7 (by rw [List.length_map]; exact hKl) rfl rfl ?_
            intro w8 N_ hc
            replace HB := HB.trans (hc.below (B := w.heap.size) (fun k e => by omega) HB.size)
            clear hc
            clear H7 HE6
            have H7 := N_
            clear N_
            refine Fw.nil ?_
            refine hK25 _ _ (Fw.FC.sub (f' := [(11, _), (10, _), (7, _), (0, _)]) (.cons rfl (.cons rfl (.cons rfl (.cons rfl .nil)))) ?_)
            refine Fw.seq fun _ hK28 => ?_
            rw [← List.map_set] at H7
            refine Fw.region ?_
            refine Fw.s (Fw.val_move rfl) rfl ?_
            refine Fw.s (Fw.val_move rfl) rfl ?_
            refine Fw.call cf16 rfl rfl (seal_any _ A l c (h.low HB) (by omega) hokl) ?_
            rintro e_ w9 ⟨rfl, hb⟩
            refine ⟨_, rfl, ?_⟩
            replace H7 := own_below H7 hb (Nat.le_refl _)
            replace HB := HB.trans (hb.mono HB.size)
            clear hb
            refine Fw.call cf15 rfl rfl (by have := jverify_any w9 (some ⟨gE, 0, none⟩) ((Jr.encs Jr.s0 (rs l)).set K x) c7 (Jr.sealF Jr.s0 (rs l)) (Rd.of_own H7) (fun z hz => (List.mem_or_eq_of_mem_set hz).elim (fun h_ => hEb z h_) (fun h_ => h_ ▸ hx)) (by rw [List.length_set]; omega) (by rw [List.length_set]; exact (own_cap H7).1); rw [List.length_set] at this; exact this) ?_
            rintro e_ w10 ⟨M, m, hV, rfl, hb⟩
            refine ⟨_, rfl, ?_⟩
            replace H7 := own_below H7 hb (Nat.le_refl _)
            replace HB := HB.trans (hb.mono HB.size)
            clear hb
            obtain ⟨rfl, rfl⟩ := hV.eq (b := []) hdet
            rw [if_pos (by omega)]
            refine Fw.s (Fw.val_move rfl) rfl ?_
            refine Fw.s (Fw.val_extract rfl rfl) rfl ?_
            refine Fw.s (Fw.val_extract rfl rfl) rfl ?_
            refine Fw.s (Fw.val_extract rfl rfl) rfl ?_
            refine Fw.s (Fw.val_assign rfl) rfl ?_
            refine Fw.s (Fw.val_assign rfl) rfl ?_
            refine Fw.s (Fw.val_assign rfl) rfl ?_
            refine Fw.nil ?_
            refine hK28 _ _ (Fw.FC.sub (f' := [(15, _), (14, _), (13, _), (11, _), (10, _)]) (.cons rfl (.cons rfl (.cons rfl (.cons rfl (.cons rfl .nil))))) ?_)
            refine Fw.seq fun _ hK29 => ?_
            refine Fw.region ?_
            refine Fw.s (Fw.val_move rfl) rfl ?_
            refine Fw.s (Fw.val_move rfl) rfl ?_
            refine Fw.s (Fw.Val.T (Fw.val_bin rfl rfl Fw.b_eql) (by show (((rs (l.take i)).length : Nat) : Int) = (i : Nat); rw [rs_len, htl])) rfl ?_
            refine Fw.s (Fw.val_move rfl) rfl ?_
            refine Fw.gT (d := 91) rfl rfl ?_
            refine Fw.s (Fw.val_move rfl) rfl ?_
            refine Fw.gT (d := 91) rfl rfl ?_
            refine Fw.s (Fw.val_move rfl) rfl ?_
            refine Fw.gT (d := 91) rfl rfl ?_
            refine Fw.s (Fw.Val.T (Fw.val_bin rfl rfl Fw.b_eql) (by rfl)) rfl ?_
            refine Fw.s (Fw.val_pickT rfl rfl) rfl ?_
            refine Fw.s (Fw.val_move rfl) rfl ?_
            refine Fw.gT (d := 96) rfl rfl ?_
            refine Fw.s (Fw.val_move rfl) rfl ?_
            refine Fw.gT (d := 96) rfl rfl ?_
            refine Fw.s (Fw.Val.T (Fw.val_bin rfl rfl Fw.b_eql) (by rfl)) rfl ?_
            refine Fw.s (Fw.val_pickT rfl rfl) rfl ?_
            refine Fw.s (Fw.val_assign rfl) rfl ?_
            refine Fw.nil ?_
            refine hK29 _ _ (Fw.FC.sub (f' := [(6, _)]) (.cons rfl .nil) ?_)
            refine Fw.ret ?_
            refine Fw.ret_ [.tmp 6] [_] Try.results6 (.tmp rfl .nil) ?_
            exact ⟨rfl, HB⟩
        · rintro hin2
          refine Fw.nil ?_
          refine hK18 _ _ ?_
          refine Fw.condF rfl ?_
          refine Fw.skip ?_
          refine hK17 _ _ ?_
          refine Fw.seq fun _ hK30 => ?_
          refine Fw.region ?_
          refine Fw.s (Fw.val_move rfl) rfl ?_
          refine Fw.s (Fw.val_move rfl) rfl ?_
          refine Fw.s (Fw.val_bin rfl rfl (Fw.b_add (Fw.i64_ok (by omega)))) rfl ?_
          refine Fw.s (Fw.val_assign rfl) rfl ?_
          refine Fw.nil ?_
          refine hK30 _ _ (Fw.FC.sub (f' := [(11, _), (10, _), (9, _), (7, _), (0, _), (2, _)]) (.cons rfl (.cons rfl (.cons rfl (.cons rfl (.cons rfl (.cons rfl .nil)))))) ?_)
          refine Fw.region ?_
          refine Fw.s (Fw.val_move rfl) rfl ?_
          refine Fw.s (Fw.val_bin rfl rfl (Fw.b_add (Fw.i64_ok (by omega)))) rfl ?_
          refine Fw.s (Fw.val_assign rfl) rfl ?_
          refine Fw.nil ?_
          refine Fw.X_blockN ?_
          rw [show (((Jr.encs Jr.s0 (rs (l.take i))).length : Nat) : Int) + ((Jr.one (Jr.sealF Jr.s0 (rs (l.take i))) ⟨l[i].k, l[i].b⟩).length : Nat) = (((Jr.encs Jr.s0 (rs (l.take (i + 1)))).length : Nat) : Int) by rw [hstep]; exact (Int.natCast_add _ _).symm]
          refine Fw.roundEnd _ _ (by omega) ⟨i + 1, rfl, hin_, by rw [hstep]; omega, H7, HB, rfl⟩ (.cons rfl (.cons rfl (.cons rfl (.cons rfl (.cons rfl (.cons rfl .nil))))))
  · rintro hsm
    refine Fw.s (Fw.val_not rfl) rfl ?_
    refine Fw.s (Fw.val_move rfl) rfl ?_
    refine Fw.gF (d := 21) rfl rfl rfl rfl ?_
    refine Fw.gF (d := 21) rfl rfl rfl rfl ?_
    refine Fw.gF (d := 21) rfl rfl rfl rfl ?_
    refine Fw.s (Fw.val_pickT rfl rfl) rfl ?_
    refine Fw.s (Fw.val_move rfl) rfl ?_
    refine Fw.gF (d := 26) rfl rfl rfl rfl ?_
    refine Fw.gF (d := 26) rfl rfl rfl rfl ?_
    refine Fw.s (Fw.val_pickT rfl rfl) rfl ?_
    refine Fw.nil ?_
    refine hK5 _ _ (Fw.FC.sub (f' := [(29, _), (0, _), (1, _), (2, _)]) (.cons rfl (.cons rfl (.cons rfl (.cons rfl .nil)))) ?_)
    refine Fw.condT rfl ?_
    refine Fw.seq fun _ hK31 => ?_
    refine Fw.region ?_
    refine Fw.s (Fw.val_assign rfl) rfl ?_
    refine Fw.nil ?_
    refine hK31 _ _ ?_
    refine Fw.ret ?_
    refine Fw.X_ret ?_
    refine Fw.ret_ [.tmp 6] [_] Try.results6 (.tmp rfl .nil) ?_
    exact ⟨rfl, HB⟩

end Go.Proofs.Ytnljnnnplfjnhaa
