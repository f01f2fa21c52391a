/- Layer 20: the law JournalErrors. -/
import Derived.Test.YtnljnnnplfjnhaaJrL
namespace Go.Proofs.Ytnljnnnplfjnhaa
set_option linter.unusedSimpArgs false
set_option linter.unusedVariables false
open Go.RowKit

namespace Jr
theorem ap_long {t : St.T} {s : Int} {r : R} (h : 8192 < r.b.length) : apE t s r = 1 ∧ apT t s r = t ∧ ∀ l, apL t s l r = l := by
  have e1 : apE t s r = 1 := if_pos h
  exact ⟨e1, if_pos h, fun l => by unfold apL; rw [e1]; exact if_neg (by decide)⟩
theorem ap_off {D : List Int} {n : Nat} {s : Int} {r : R} (h : r.b.length ≤ 8192) : apE ⟨D, n, true⟩ s r = 7 ∧ apT ⟨D, n, true⟩ s r = ⟨D, n, true⟩ ∧ ∀ l, apL ⟨D, n, true⟩ s l r = l := by
  have e1 : apE ⟨D, n, true⟩ s r = 7 := (if_neg (by omega)).trans rfl
  exact ⟨e1, (if_neg (by omega)).trans rfl, fun l => by unfold apL; rw [e1]; exact if_neg (by decide)⟩
end Jr
theorem St.cut0 (D : List Int) : St.cut ⟨D, 0, false⟩ 0 0 = ⟨[], 0, true⟩ := by simp [St.cut, St.kept]
theorem JAt.ltg {w : World} {B p pf : Nat} {g : Option Nat} {t : St.T} {L : List Rv} (h : JAt w B p pf g t L) : ∀ k, g = some k → k < w.heap.size := fun k e => (h.2.1.lt_.2.2 k e).1
theorem Bod.new2 {w : World} {B base : Nat} {g : Option Nat} {k : Int} {b : List Int} {x : Nat} {c : Nat} (h : w.ownsRow base 5 1 (.slice (some ⟨x, 0, none⟩) b.length c) b.length (b.map (.int .u8))) (hg : ∀ k, g = some k → k < x) : Bod w g B ⟨k, b, some ⟨x, 0, none⟩, c⟩ :=
  ⟨Rd.of_own h, fun _ ad e => .inr ⟨by
    obtain ⟨cur, hb, _⟩ := Fw.own_at h
    injection e with e; subst e; exact ⟨cur, _, hb⟩, fun e2 => by
    injection e with e; subst e
    exact absurd (hg _ e2.symm) (Nat.lt_irrefl _)⟩⟩

set_option maxRecDepth 100000 in
set_option maxHeartbeats 1000000 in
theorem errors_any (w : World) (A : Option Addr) (l : List Rv) (c : Nat) (h : Recs w A l) (hcap : l.length ≤ c) (hlm : l.length ≤ maxLen) (hbig : ∀ v ∈ l, v.b.length ≤ 140737488355328) (hok : ∀ v ∈ l, v.r.ok) (kind : Int) : Calls Try.prog 8 #[.slice A l.length c, .int .u8 kind] w fun e_ w' => e_ = .returned (.bool true) ∧ Below w.heap.size w w' := by
  obtain ⟨BL, hBL⟩ : ∃ b, b = List.replicate 8193 (0 : Int) := ⟨_, rfl⟩
  have hBLl : BL.length = 8193 := by rw [hBL]; exact List.length_replicate
  refine Fw.calls Try.func8 rfl Try.ntmps8 rfl ?_
  have HB := Below.refl (w.heap.size) w
  refine Fw.seq fun _ hK1 => ?_
  refine Fw.region ?_
  refine Fw.s (Fw.val_assign rfl) rfl ?_
  refine Fw.nil ?_
  refine hK1 _ _ ?_
  refine Fw.seq fun _ hK2 => ?_
  refine Fw.seq fun _ hK3 => ?_
  refine Fw.region ?_
  refine Fw.call cf10 rfl rfl (alive_any _) ?_
  rintro e_ w1 ⟨rfl, hb⟩
  refine ⟨_, rfl, ?_⟩
  replace HB := HB.trans (hb.mono HB.size)
  clear hb
  refine Fw.bT (by rfl) ?_
  refine Fw.s (Fw.val_not rfl) rfl ?_
  refine Fw.nil ?_
  refine hK3 _ _ ?_
  refine Fw.condF rfl ?_
  refine Fw.skip ?_
  refine hK2 _ _ ?_
  refine Fw.seq fun _ hK4 => ?_
  refine Fw.seq fun _ hK5 => ?_
  refine Fw.region ?_
  refine Fw.s (Fw.val_move rfl) rfl ?_
  refine Fw.call cf11 rfl rfl (jsmall_any _ A l c (h.low HB) hlm 20 (by decide) hbig) ?_
  rintro e_ w2 ⟨rfl, hb⟩
  refine ⟨_, rfl, ?_⟩
  replace HB := HB.trans (hb.mono HB.size)
  clear hb
  refine Fw.b2 ?_ ?_
  · rintro hsm
    refine Fw.s (Fw.val_not rfl) rfl ?_
    refine Fw.nil ?_
    refine hK5 _ _ ?_
    refine Fw.condF rfl ?_
    refine Fw.skip ?_
    refine hK4 _ _ (Fw.FC.sub (f' := [(0, _), (1, _)]) (.cons rfl (.cons rfl .nil)) ?_)
    refine Fw.seq fun _ hK6 => ?_
    obtain ⟨hl20, hbs⟩ := small_use hsm
    have hokl := okL_of hok hbs
    refine Fw.region ?_
    refine Fw.call cf18 rfl rfl (new_any _) ?_
    rintro e_ w3 ⟨rfl, HF, hb⟩
    refine ⟨_, rfl, ?_⟩
    obtain ⟨B, hBe⟩ : ∃ B, B = w2.heap.size := ⟨_, rfl⟩
    rw [← hBe] at HF ⊢
    have hBn : w.heap.size ≤ B := by rw [hBe]; exact HB.size
    replace HB := HB.trans (hb.mono HB.size)
    clear hb
    refine Fw.s (Fw.val_assign rfl) rfl ?_
    refine Fw.nil ?_
    refine hK6 _ _ ?_
    refine Fw.seq fun _ hK7 => ?_
    refine Fw.region ?_
    refine Fw.s (Fw.val_move rfl) rfl ?_
    refine Fw.call cf20 rfl rfl (open_any _ B B _ [] 0 HF (by simp; try omega) (by first | assumption | (intro x hx; cases hx))) ?_
    rintro e_ w4 ⟨p, g1, L, n, rfl, hV, HJ, hLn, hbB⟩
    refine ⟨_, rfl, ?_⟩
    replace HB := HB.trans (hbB.mono hBn)
    clear hbB HF
    refine Fw.s (Fw.val_move rfl) rfl ?_
    refine Fw.s (Fw.val_extract rfl rfl) rfl ?_
    refine Fw.s (Fw.val_extract rfl rfl) rfl ?_
    refine Fw.s (Fw.val_assign rfl) rfl ?_
    refine Fw.s (Fw.val_assign rfl) rfl ?_
    refine Fw.nil ?_
    refine hK7 _ _ ?_
    refine Fw.seq fun _ hK8 => ?_
    refine Fw.region ?_
    refine Fw.call cf20 rfl rfl (open_nil _) ?_
    rintro e_ _ ⟨rfl, rfl⟩
    refine ⟨_, rfl, ?_⟩
    refine Fw.s (Fw.val_move rfl) rfl ?_
    refine Fw.s (Fw.val_extract rfl rfl) rfl ?_
    refine Fw.s (Fw.val_extract rfl rfl) rfl ?_
    refine Fw.s (Fw.val_assign rfl) rfl ?_
    refine Fw.s (Fw.val_assign rfl) rfl ?_
    refine Fw.nil ?_
    refine hK8 _ _ (Fw.FC.sub (f' := [(9, _), (7, _), (6, _), (5, _), (0, _), (1, _)]) (.cons rfl (.cons rfl (.cons rfl (.cons rfl (.cons rfl (.cons rfl .nil)))))) ?_)
    refine Fw.seq fun _ hK9 => ?_
    refine Fw.seq fun _ hK10 => ?_
    refine Fw.region ?_
    refine Fw.s (Fw.val_move rfl) rfl ?_
    refine Fw.s (Fw.Val.F (Fw.val_bin rfl rfl Fw.b_neq) (by exact fun h_ => h_ rfl)) rfl ?_
    refine Fw.s (Fw.val_move rfl) rfl ?_
    refine Fw.gT (d := 34) rfl rfl ?_
    refine Fw.s (Fw.val_move rfl) rfl ?_
    refine Fw.gT (d := 34) rfl rfl ?_
    refine Fw.s (Fw.Val.F (Fw.val_bin rfl rfl Fw.b_neq) (by exact fun h_ => h_ rfl)) rfl ?_
    refine Fw.s (Fw.val_pickF rfl rfl) rfl ?_
    refine Fw.nil ?_
    refine hK10 _ _ (Fw.FC.sub (f' := [(37, _), (6, _), (5, _), (0, _), (1, _)]) (.cons rfl (.cons rfl (.cons rfl (.cons rfl (.cons rfl .nil))))) ?_)
    refine Fw.condF rfl ?_
    refine Fw.skip ?_
    refine hK9 _ _ ?_
    refine Fw.seq fun _ hK11 => ?_
    refine Fw.seq fun _ hK12 => ?_
    refine Fw.region ?_
    refine Fw.s (Fw.val_move rfl) rfl ?_
    refine Fw.s (Fw.val_len Try.underlying22 rfl) rfl ?_
    refine Fw.s (Fw.val_move rfl) rfl ?_
    refine Fw.nil ?_
    refine hK12 _ _ ?_
    refine Fw.block ?_
    obtain ⟨hLe, rfl⟩ := Jr.val_nil hV
    obtain rfl : L = [] := List.map_eq_nil_iff.1 hLe
    replace HJ : JAt w4 B p B g1 ⟨Jr.encs Jr.s0 (rs (l.take 0)), 0, false⟩ [] := HJ
    refine Fw.loop (fun m_ f_ W_ => ∃ (k : Nat) (g_ : Option Nat) (L_ : List Rv), m_ = l.length - k ∧ k ≤ l.length ∧ rs L_ = rs (l.take k) ∧ JAt W_ B p B g_ ⟨Jr.encs Jr.s0 (rs (l.take k)), 0, false⟩ L_ ∧ Below (w.heap.size) w W_ ∧ f_ = [(40, .int .i64 k), (39, .int .i64 l.length), (38, .slice A l.length c), (6, .pointer (some ⟨p, 0, none⟩)), (5, .pointer (some ⟨B, 0, none⟩)), (0, .slice A l.length c), (1, .int .u8 kind)]) ⟨_, _, ⟨0, g1, [], rfl, Nat.zero_le _, rfl, HJ, HB, rfl⟩, (.cons rfl (.cons rfl (.cons rfl (.cons rfl (.cons rfl (.cons rfl (.cons rfl .nil)))))))⟩ ?_
    clear HJ HB
    rintro m13_ _ w5 ⟨k, g_, L_, hm13_, hkl, hL, HJ, HB, rfl⟩
    refine Fw.seq fun _ hK14 => ?_
    refine Fw.region ?_
    refine Fw.s2 (Fw.val_bin rfl rfl Fw.b_lss) rfl ?_ ?_
    · rintro hk
      refine Fw.nil ?_
      refine hK14 _ _ ?_
      refine Fw.seq fun _ hK16 => ?_
      refine Fw.condT rfl ?_
      refine Fw.skip ?_
      refine hK16 _ _ ?_
      refine Fw.seq fun _ hK17 => ?_
      refine Fw.block ?_
      refine Fw.seq fun _ hK18 => ?_
      have hkn : k < l.length := by omega
      have hbk := hbs _ (List.getElem_mem hkn)
      have hLl : L_.length = k := by rw [← rs_len, hL, rs_len, List.length_take]; omega
      have hen : (Jr.encs Jr.s0 (rs (l.take k))).length ≤ 164400 := Nat.le_trans (encs_le (fun v hv => hbs v (List.mem_of_mem_take hv)) Jr.s0) (by rw [List.length_take]; omega)
      obtain ⟨ad, b_, o_, hA, hadd, HE⟩ := Fw.rdAt Rv.len (by decide) (h.low HB).1 k hkn
      refine Fw.region ?_
      refine Fw.s (Fw.val_indexR Try.underlying22 sz28 rfl hA rfl rfl hkn hadd) rfl ?_
      refine Fw.ldA ag28 rfl (HE) rfl rfl ?_
      refine Fw.alloc ze28 rfl ?_
      intro w6 gXv egXv HXv hb
      have hBx : B ≤ gXv := by have := HJ.lt; omega
      have lgXv : w.heap.size ≤ gXv := by have := HB.size; omega
      clear HE
      replace HJ := HJ.low hb
      replace HB := HB.trans (hb.mono HB.size)
      clear hb
      clear egXv
      refine Fw.storeW sz28 rfl rfl HXv rfl rfl (by exact Fw.oneCells rfl) ?_
      intro w7 N_ hc
      replace HJ := HJ.keep (Kf.box (B := B) (g := none) HXv hc hBx)
      replace HB := HB.trans (hc.below (B := w.heap.size) (fun k e => by omega) HB.size)
      clear hc
      clear HXv
      have HXv := N_
      clear N_
      refine Fw.nil ?_
      refine hK18 _ _ ?_
      refine Fw.region ?_
      refine Fw.s (Fw.val_move rfl) rfl ?_
      refine Fw.ldA ag28 rfl (Fw.rdBlk HXv) rfl rfl ?_
      refine Fw.call cf12 rfl rfl (jown_any _ l[k].k l[k].A l[k].b.length l[k].c) ?_
      rintro e_ w8 ⟨rfl, hb⟩
      refine ⟨_, rfl, ?_⟩
      replace HJ := HJ.low hb
      replace HXv := HXv.low hb
      replace HB := HB.trans (hb.mono HB.size)
      clear hb
      refine Fw.call cf24 rfl rfl (jappend_any _ B p _ _ ⟨Jr.encs Jr.s0 (rs (l.take k)), 0, false⟩ L_ l[k].k l[k].A l[k].b l[k].c HJ (Bod.old (h.at k hkn) hBn HB) (by show (Jr.encs Jr.s0 (rs (l.take k))).length ≤ _; omega) (by omega)) ?_
      rintro e_ w9 ⟨g2, L2, rfl, HJ2, hL2, hk, hg2⟩
      refine ⟨_, rfl, ?_⟩
      replace HXv := HXv.kf hk (by decide) (by decide)
      replace HB := HB.trans (hk.low.mono hBn)
      clear hk HJ
      have HJ := HJ2
      clear HJ2
      obtain ⟨e1, e2, e3⟩ := Jr.ap_ok (D := Jr.encs Jr.s0 (rs (l.take k))) (n := 0) (s := Jr.sealF Jr.s0 (rs L_)) (r := ⟨l[k].k, l[k].b⟩) (by show l[k].b.length ≤ _; omega) (by have := Jr.one_le (s := Jr.sealF Jr.s0 (rs L_)) (r := ⟨l[k].k, l[k].b⟩) (by show l[k].b.length ≤ _; omega); omega)
      rw [e1]
      rw [e2, hL, ← show Jr.encs Jr.s0 (rs (l.take (k + 1))) = Jr.encs Jr.s0 (rs (l.take k)) ++ Jr.one (Jr.sealF Jr.s0 (rs (l.take k))) ⟨l[k].k, l[k].b⟩ by rw [rs_snoc l k hkn, Jr.encs_snoc]; rfl] at HJ
      rw [e3, hL, ← show rs (l.take (k + 1)) = rs (l.take k) ++ [(⟨l[k].k, l[k].b⟩ : Jr.R)] from rs_snoc l k hkn] at hL2
      refine Fw.nil ?_
      refine Fw.X_blockN ?_
      refine hK17 _ _ (Fw.FC.sub (f' := [(40, _), (39, _), (38, _), (6, _), (5, _), (0, _), (1, _)]) (.cons rfl (.cons rfl (.cons rfl (.cons rfl (.cons rfl (.cons rfl (.cons rfl .nil))))))) ?_)
      refine Fw.region ?_
      refine Fw.s (Fw.val_bin rfl rfl (Fw.b_add (Fw.i64_ok (by omega)))) rfl ?_
      refine Fw.s (Fw.val_move rfl) rfl ?_
      refine Fw.nil ?_
      refine Fw.roundEnd _ _ (by omega) ⟨k + 1, g2, L2, rfl, hkn, hL2, HJ, HB, rfl⟩ (.cons rfl (.cons rfl (.cons rfl (.cons rfl (.cons rfl (.cons rfl (.cons rfl .nil)))))))
    · rintro hk
      refine Fw.nil ?_
      refine hK14 _ _ ?_
      refine Fw.seq fun _ hK20 => ?_
      refine Fw.condF rfl ?_
      refine Fw.exit ?_
      refine Fw.X_exit ?_
      refine Fw.X_exit ?_
      refine Fw.X_block ?_
      refine hK11 _ _ ?_
      refine Fw.seq fun _ hK21 => ?_
      obtain rfl : k = l.length := by omega
      rw [List.take_length] at hL HJ
      have hLl : L_.length = l.length := by rw [← rs_len, hL, rs_len]
      have hen : (Jr.encs Jr.s0 (rs l)).length ≤ 164400 := Nat.le_trans (encs_le hbs Jr.s0) (by omega)
      refine Fw.region ?_
      refine Fw.s (Fw.val_move rfl) rfl ?_
      refine Fw.makeG 8193 sl26 zi5 rfl rfl rfl rfl (by omega) (by unfold maxLen; omega) HB.size rfl ?_
      intro w10 gN egN HN hb
      have hgN : ∀ k, g_ = some k → k < gN := fun k e => by have := HJ.ltg k e; omega
      rw [Fw.made (cells := (fun x : Int => [Value.int .u8 x])) (m := 1) (0 : Int) (Value.cells (.int .u8 0)) rfl rfl] at HN
      have lgN : w.heap.size ≤ gN := by have := HB.size; omega
      replace HJ := HJ.low hb
      replace HB := HB.trans (hb.mono HB.size)
      clear hb
      clear egN
      rw [← List.map_eq_flatMap, ← hBL] at HN
      refine Fw.s (Fw.val_build (ps := [(0, _), (1, _)]) rfl (bu29_0_1 _ _ _ _)) rfl ?_
      refine Fw.alloc ze29 rfl ?_
      intro w11 gXl egXl HXl hb
      have HJ0 := HJ
      have hbJ := hb
      have hx0 := Nat.le_of_eq egXl.symm
      have n_gN : gN < gXl := by have := (HN.lt gN rfl).2; omega
      have lgXl : w.heap.size ≤ gXl := by have := HB.size; omega
      replace HJ := HJ.low hb
      replace HN := own_below HN hb (Nat.le_refl _)
      replace HB := HB.trans (hb.mono HB.size)
      clear hb
      clear egXl
      refine Fw.storeW sz29 rfl rfl HXl rfl rfl (by exact Fw.oneCells rfl) ?_
      intro w12 N_ hc
      replace HJ := HJ0.low (hbJ.trans (hc.below (fun k e => by omega) hbJ.size))
      replace HN := own_to HN hc (fun g_ h_ e_ => by simp at h_; omega)
      replace HB := HB.trans (hc.below (B := w.heap.size) (fun k e => by omega) HB.size)
      clear hc
      clear HXl
      have HXl := N_
      clear N_
      refine Fw.nil ?_
      refine hK21 _ _ (Fw.FC.sub (f' := [(12, _), (6, _), (5, _), (0, _)]) (.cons rfl (.cons rfl (.cons rfl (.cons rfl .nil)))) ?_)
      refine Fw.seq fun _ hK22 => ?_
      have hcell : Rv.cells (⟨kind, BL, some ⟨gN, 0, none⟩, 8193⟩ : Rv) = [.int .u8 kind, .slice (some ⟨gN, 0, none⟩) 8193 8193] := by unfold Rv.cells; rw [hBLl]
      refine Fw.region ?_
      refine Fw.ldA ag29 rfl (Fw.rdBlk HXl) rfl rfl ?_
      refine Fw.buildSlice [_] sl25 rfl rfl (by exact Fw.allSz rfl) (by decide) rfl ?_
      intro w13 gS54 egS54 HS54 hb
      have n_gXl_gS54 : gXl < gS54 := by have := HXl.lt; omega
      have lgS54 : w.heap.size ≤ gS54 := by have := HB.size; omega
      replace HJ := HJ.low hb
      replace HN := own_below HN hb (Nat.le_refl _)
      replace HXl := HXl.low hb
      replace HB := HB.trans (hb.mono HB.size)
      clear hb
      clear egS54
      refine Fw.call cf13 rfl rfl (encode_bad _ (some ⟨gS54, 0, none⟩) [(⟨kind, BL, some ⟨gN, 0, none⟩, 8193⟩ : Rv)] 1 ⟨by rw [List.flatMap_singleton, hcell]; exact Fw.rdBlk HS54, fun v hv => by simp at hv; subst hv; exact Rd.of_own HN⟩ (by simp) (fun h_ => absurd (h_ _ (List.mem_singleton.2 rfl)) (by show ¬ BL.length ≤ 8192; omega))) ?_
      rintro e_ w14 ⟨rfl, hb⟩
      refine ⟨_, rfl, ?_⟩
      replace HJ := HJ.low hb
      replace HN := own_below HN hb (Nat.le_refl _)
      replace HXl := HXl.low hb
      replace HS54 := HS54.low hb
      replace HB := HB.trans (hb.mono HB.size)
      clear hb
      refine Fw.s (Fw.val_move rfl) rfl ?_
      refine Fw.s (Fw.val_extract rfl rfl) rfl ?_
      refine Fw.s (Fw.val_extract rfl rfl) rfl ?_
      refine Fw.s (Fw.val_assign rfl) rfl ?_
      refine Fw.s (Fw.val_assign rfl) rfl ?_
      refine Fw.nil ?_
      refine hK22 _ _ (Fw.FC.sub (f' := [(14, _), (12, _), (6, _), (5, _), (0, _)]) (.cons rfl (.cons rfl (.cons rfl (.cons rfl (.cons rfl .nil))))) ?_)
      refine Fw.seq fun _ hK23 => ?_
      refine Fw.seq fun _ hK24 => ?_
      refine Fw.region ?_
      refine Fw.s (Fw.val_move rfl) rfl ?_
      refine Fw.ldA ag29 rfl (Fw.rdBlk HXl) rfl rfl ?_
      refine Fw.call cf24 rfl rfl (by have := jappend_any w14 B p B _ ⟨Jr.encs Jr.s0 (rs l), 0, false⟩ L_ kind (some ⟨gN, 0, none⟩) BL 8193 HJ (Bod.new2 (by rw [hBLl]; exact HN) hgN) (by show (Jr.encs Jr.s0 (rs l)).length ≤ _; omega) (by omega); rw [hBLl] at this; exact this) ?_
      rintro e_ w15 ⟨g2, L2, rfl, HJ2, hL2, hk, hg2⟩
      refine ⟨_, rfl, ?_⟩
      replace HB := HB.trans (hk.low.mono hBn)
      clear hk HJ
      have HJ := HJ2
      clear HJ2
      obtain ⟨e1, e2, e3⟩ := Jr.ap_long (t := ⟨Jr.encs Jr.s0 (rs l), 0, false⟩) (s := Jr.sealF Jr.s0 (rs L_)) (r := ⟨kind, BL⟩) (by show 8192 < BL.length; omega)
      rw [e1]
      rw [e2] at HJ
      rw [e3, hL] at hL2
      refine Fw.s (Fw.Val.F (Fw.val_bin rfl rfl Fw.b_neq) (by exact fun h_ => h_ rfl)) rfl ?_
      refine Fw.s (Fw.val_move rfl) rfl ?_
      refine Fw.gT (d := 62) rfl rfl ?_
      refine Fw.s (Fw.val_move rfl) rfl ?_
      refine Fw.gT (d := 62) rfl rfl ?_
      refine Fw.s (Fw.Val.F (Fw.val_bin rfl rfl Fw.b_neq) (by exact fun h_ => h_ rfl)) rfl ?_
      refine Fw.s (Fw.val_pickF rfl rfl) rfl ?_
      refine Fw.s (Fw.val_move rfl) rfl ?_
      refine Fw.gT (d := 66) rfl rfl ?_
      refine Fw.s (Fw.val_move rfl) rfl ?_
      have hl2 : L2.length = l.length := by rw [← rs_len, hL2, rs_len]
      have hbL2 : ∀ v ∈ L2, v.b.length ≤ 100000 := recs_small hL2 (fun r hr => (hokl r hr).2)
      refine Fw.gT (d := 66) rfl rfl ?_
      refine Fw.call cf23 rfl rfl (jall_any _ B p B _ _ L2 HJ (by omega) hbL2) ?_
      rintro e_ w16 ⟨M, AM, cM, rfl, hM, HM, hb⟩
      refine ⟨_, rfl, ?_⟩
      replace HJ := HJ.low hb
      replace HB := HB.trans (hb.mono HB.size)
      clear hb
      refine Fw.gT (d := 66) rfl rfl ?_
      refine Fw.s (Fw.val_move rfl) rfl ?_
      have hMb : ∀ v ∈ M, Ck.Bts v.b := fun v hv => by
        have h1 : v.r ∈ rs M := List.mem_map.2 ⟨v, hv, rfl⟩
        rw [hM, hL2] at h1
        exact (hokl _ h1).1.2
      refine Fw.gT (d := 66) rfl rfl ?_
      refine Fw.call cf22 rfl rfl (jsame_any _ AM M cM A l c HM.recs (h.low HB) (by unfold maxLen; have := rs_len M; rw [hM, hL2, rs_len] at this; omega) (fun v hv => hMb v hv) (fun v hv => (hok v hv).2)) ?_
      rintro e_ w17 ⟨rfl, hb⟩
      refine ⟨_, rfl, ?_⟩
      replace HJ := HJ.low hb
      replace HM := HM.low hb (Nat.zero_le _)
      replace HB := HB.trans (hb.mono HB.size)
      clear hb
      refine Fw.bT (by exact decide_eq_true (hM.trans hL2)) ?_
      refine Fw.gT (d := 66) rfl rfl ?_
      refine Fw.s (Fw.val_not rfl) rfl ?_
      refine Fw.s (Fw.val_pickF rfl rfl) rfl ?_
      refine Fw.nil ?_
      refine hK24 _ _ (Fw.FC.sub (f' := [(72, _), (6, _), (5, _)]) (.cons rfl (.cons rfl (.cons rfl .nil))) ?_)
      refine Fw.condF rfl ?_
      refine Fw.skip ?_
      refine hK23 _ _ ?_
      refine Fw.seq fun _ hK25 => ?_
      refine Fw.region ?_
      refine Fw.s (Fw.val_move rfl) rfl ?_
      refine Fw.call cf28 rfl rfl (powerFail_any _ B B _ ⟨Jr.encs Jr.s0 (rs l), 0, false⟩ 0 0 HJ.2.1 ⟨Nat.zero_le _, by show (Jr.encs Jr.s0 (rs l)).length ≤ _; omega⟩ (by decide)) ?_
      rintro e_ w18 ⟨rfl, hto⟩
      refine ⟨_, rfl, ?_⟩
      rw [St.cut0] at hto
      obtain ⟨g3, HJ3, hk, hg3⟩ := HJ.file hto
      replace HB := HB.trans (hk.low.mono hBn)
      clear hk HJ hto
      have HJ := HJ3
      clear HJ3
      refine Fw.nil ?_
      refine hK25 _ _ ?_
      refine Fw.seq fun _ hK26 => ?_
      refine Fw.region ?_
      refine Fw.s (Fw.val_move rfl) rfl ?_
      refine Fw.call cf20 rfl rfl (open_off _ B B _ ⟨[], 0, true⟩ HJ.2.1 rfl) ?_
      rintro e_ _ ⟨rfl, rfl⟩
      refine ⟨_, rfl, ?_⟩
      refine Fw.s (Fw.val_move rfl) rfl ?_
      refine Fw.s (Fw.val_extract rfl rfl) rfl ?_
      refine Fw.s (Fw.val_extract rfl rfl) rfl ?_
      refine Fw.s (Fw.val_assign rfl) rfl ?_
      refine Fw.s (Fw.val_assign rfl) rfl ?_
      refine Fw.nil ?_
      refine hK26 _ _ (Fw.FC.sub (f' := [(16, _), (6, _)]) (.cons rfl (.cons rfl .nil)) ?_)
      refine Fw.seq fun _ hK27 => ?_
      refine Fw.region ?_
      refine Fw.s (Fw.val_move rfl) rfl ?_
      refine Fw.s (Fw.val_build (ps := []) rfl (bu29_)) rfl ?_
      refine Fw.call cf24 rfl rfl (jappend_any _ B p _ _ ⟨[], 0, true⟩ L2 0 none [] 0 HJ ⟨Rd.nil _ _, fun h_ => absurd rfl h_⟩ (by show (0 : Nat) ≤ _; omega) (by omega)) ?_
      rintro e_ w19 ⟨g4, L4, rfl, HJ2, hL4, hk, hg4⟩
      refine ⟨_, rfl, ?_⟩
      replace HB := HB.trans (hk.low.mono hBn)
      clear hk HJ
      have HJ := HJ2
      clear HJ2
      obtain ⟨e1, e2, e3⟩ := Jr.ap_off (D := []) (n := 0) (s := Jr.sealF Jr.s0 (rs L2)) (r := ⟨0, []⟩) (by decide)
      rw [e1]
      rw [e2] at HJ
      refine Fw.s (Fw.Val.T (Fw.val_bin rfl rfl Fw.b_eql) (by rfl)) rfl ?_
      refine Fw.s (Fw.val_move rfl) rfl ?_
      refine Fw.gT (d := 84) rfl rfl ?_
      refine Fw.s (Fw.val_move rfl) rfl ?_
      refine Fw.gT (d := 84) rfl rfl ?_
      refine Fw.call cf29 rfl rfl (jsync_any _ B p B _ ⟨[], 0, true⟩ _ HJ (by show (0 : Nat) ≤ _; omega)) ?_
      rintro e_ w20 ⟨g5, rfl, HJ5, hk, hg5⟩
      refine ⟨_, rfl, ?_⟩
      replace HB := HB.trans (hk.low.mono hBn)
      clear hk HJ
      have HJ := HJ5
      clear HJ5
      refine Fw.gT (d := 84) rfl rfl ?_
      refine Fw.s (Fw.Val.T (Fw.val_bin rfl rfl Fw.b_eql) (by rfl)) rfl ?_
      refine Fw.s (Fw.val_pickT rfl rfl) rfl ?_
      refine Fw.s (Fw.val_move rfl) rfl ?_
      refine Fw.gT (d := 89) rfl rfl ?_
      refine Fw.s (Fw.val_move rfl) rfl ?_
      refine Fw.gT (d := 89) rfl rfl ?_
      refine Fw.s (Fw.Val.T (Fw.val_bin rfl rfl Fw.b_eql) (by rfl)) rfl ?_
      refine Fw.s (Fw.val_pickT rfl rfl) rfl ?_
      refine Fw.s (Fw.val_assign rfl) rfl ?_
      refine Fw.nil ?_
      refine hK27 _ _ (Fw.FC.sub (f' := [(4, _)]) (.cons rfl .nil) ?_)
      refine Fw.ret ?_
      refine Fw.ret_ [.tmp 4] [_] Try.results8 (.tmp rfl .nil) ?_
      exact ⟨rfl, HB⟩
  · rintro hsm
    refine Fw.s (Fw.val_not rfl) rfl ?_
    refine Fw.nil ?_
    refine hK5 _ _ ?_
    refine Fw.condT rfl ?_
    refine Fw.seq fun _ hK28 => ?_
    refine Fw.region ?_
    refine Fw.s (Fw.val_assign rfl) rfl ?_
    refine Fw.nil ?_
    refine hK28 _ _ (Fw.FC.sub (f' := [(4, _)]) (.cons rfl .nil) ?_)
    refine Fw.ret ?_
    refine Fw.X_ret ?_
    refine Fw.ret_ [.tmp 4] [_] Try.results8 (.tmp rfl .nil) ?_
    exact ⟨rfl, HB⟩

end Go.Proofs.Ytnljnnnplfjnhaa
