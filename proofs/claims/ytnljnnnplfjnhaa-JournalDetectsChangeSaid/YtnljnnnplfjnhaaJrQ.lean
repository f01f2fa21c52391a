/- Layer 20: the law JournalOpensAnyBytes. -/
import Derived.Test.YtnljnnnplfjnhaaJrP
namespace Go.Proofs.Ytnljnnnplfjnhaa
set_option linter.unusedSimpArgs false
set_option linter.unusedVariables false
open Go.RowKit

theorem St.write0 (b : List Int) (h : b.length ≤ 16777216) : St.write St.new b = ⟨b, 0, false⟩ ∧ St.writeE St.new b = 0 := by
  have hf : St.fits St.new b = true := decide_eq_true (by show 0 + b.length ≤ _; omega)
  have ho : ¬ St.new.off = true := fun h => by cases h
  unfold St.write St.writeE
  rw [if_neg ho, if_neg ho, if_pos hf, if_pos hf]
  exact ⟨rfl, rfl⟩
theorem rs_ok {L : List Rv} {P : Jr.R → Prop} (h : ∀ r ∈ rs L, P r) : ∀ v ∈ L, P v.r := fun v hv => h _ (List.mem_map.2 ⟨v, hv, rfl⟩)
theorem rs_ok2 {L : List Rv} {n m : Nat} (h : ∀ r ∈ rs L, r.ok ∧ r.b.length ≤ n) (hm : n ≤ m) : ∀ v ∈ L, v.b.length ≤ m := fun v hv => Nat.le_trans (h v.r (List.mem_map.2 ⟨v, hv, rfl⟩)).2 hm
theorem jenc_le {L : List Rv} {s : Int} (h : ∀ r ∈ rs L, r.ok ∧ r.b.length ≤ 8192) : (Jr.encs s (rs L)).length ≤ L.length * 8220 := by
  have := jenc_len (s := s) (fun r hr => (h r hr).2); rw [rs_len] at this; exact this

theorem mok {M_ : List Rv} {v : Rv} (h : ∀ r ∈ rs M_, r.ok ∧ r.b.length ≤ 8192) (hv : v.r.ok) (hb : v.b.length ≤ 8192) : ∀ r ∈ rs (M_ ++ [v]), r.ok ∧ r.b.length ≤ 8192 := fun r hr => by
  rw [rs_append] at hr
  rcases List.mem_append.1 hr with h1 | h1
  · exact h r h1
  · have : r = v.r := by simpa [rs] using h1
    subst this; exact ⟨hv, hb⟩
set_option maxRecDepth 100000 in
set_option maxHeartbeats 1000000 in
theorem opens_any (w : World) (Ab : Option Addr) (b : List Int) (cb : Nat) (hb0 : Rd w Ab (b.map (.int .u8))) (hb : Ck.Bts b) (hcb : b.length ≤ cb) (A : Option Addr) (l : List Rv) (c : Nat) (h : Recs w A l) (hcap : l.length ≤ c) (hlm : l.length ≤ maxLen) (hbig : ∀ v ∈ l, v.b.length ≤ 140737488355328) (hok : ∀ v ∈ l, v.r.ok) :
    Calls Try.prog 5 #[.slice Ab b.length cb, .slice A l.length c] w fun e_ w' => e_ = .returned (.bool true) ∧ Below w.heap.size w w' := by
  refine Fw.calls Try.func5 rfl Try.ntmps5 rfl ?_
  have HB := Below.refl (w.heap.size) w
  refine Fw.seq fun _ hK1 => ?_
  refine Fw.region ?_
  refine Fw.s (Fw.val_assign rfl) rfl ?_
  refine Fw.nil ?_
  refine hK1 _ _ ?_
  refine Fw.seq fun _ hK2 => ?_
  refine Fw.seq fun _ hK3 => ?_
  refine Fw.region ?_
  refine Fw.call cf10 rfl rfl (alive_any _) ?_
  rintro e_ w1 ⟨rfl, hb⟩
  refine ⟨_, rfl, ?_⟩
  replace HB := HB.trans (hb.mono HB.size)
  clear hb
  refine Fw.bT (by rfl) ?_
  refine Fw.s (Fw.val_not rfl) rfl ?_
  refine Fw.nil ?_
  refine hK3 _ _ ?_
  refine Fw.condF rfl ?_
  refine Fw.skip ?_
  refine hK2 _ _ ?_
  refine Fw.seq fun _ hK4 => ?_
  refine Fw.seq fun _ hK5 => ?_
  refine Fw.region ?_
  refine Fw.s (Fw.val_move rfl) rfl ?_
  refine Fw.s (Fw.val_len Try.underlying26 rfl) rfl ?_
  refine Fw.s2 (Fw.val_bin rfl rfl Fw.b_gtr) rfl ?_ ?_
  · rintro h2000
    refine Fw.s (Fw.val_move rfl) rfl ?_
    refine Fw.gF (d := 21) rfl rfl rfl rfl ?_
    refine Fw.gF (d := 21) rfl rfl rfl rfl ?_
    refine Fw.gF (d := 21) rfl rfl rfl rfl ?_
    refine Fw.s (Fw.val_pickT rfl rfl) rfl ?_
    refine Fw.nil ?_
    refine hK5 _ _ (Fw.FC.sub (f' := [(25, _), (0, _), (1, _)]) (.cons rfl (.cons rfl (.cons rfl .nil))) ?_)
    refine Fw.condT rfl ?_
    refine Fw.seq fun _ hK7 => ?_
    refine Fw.region ?_
    refine Fw.s (Fw.val_assign rfl) rfl ?_
    refine Fw.nil ?_
    refine hK7 _ _ ?_
    refine Fw.ret ?_
    refine Fw.X_ret ?_
    refine Fw.ret_ [.tmp 4] [_] Try.results5 (.tmp rfl .nil) ?_
    exact ⟨rfl, HB⟩
  · rintro h2000
    refine Fw.s (Fw.val_move rfl) rfl ?_
    refine Fw.gT (d := 21) rfl rfl ?_
    refine Fw.s (Fw.val_move rfl) rfl ?_
    refine Fw.gT (d := 21) rfl rfl ?_
    refine Fw.call cf11 rfl rfl (jsmall_any _ A l c (h.low HB) hlm 20 (by decide) hbig) ?_
    rintro e_ w2 ⟨rfl, hb⟩
    refine ⟨_, rfl, ?_⟩
    replace HB := HB.trans (hb.mono HB.size)
    clear hb
    refine Fw.b2 ?_ ?_
    · rintro hsm
      refine Fw.gT (d := 21) rfl rfl ?_
      refine Fw.s (Fw.val_not rfl) rfl ?_
      refine Fw.s (Fw.val_pickF rfl rfl) rfl ?_
      refine Fw.nil ?_
      refine hK5 _ _ (Fw.FC.sub (f' := [(25, _), (0, _), (1, _)]) (.cons rfl (.cons rfl (.cons rfl .nil))) ?_)
      refine Fw.condF rfl ?_
      refine Fw.skip ?_
      refine hK4 _ _ ?_
      refine Fw.seq fun _ hK8 => ?_
      obtain ⟨hl20, hbs⟩ := small_use hsm
      have hokl := okL_of hok hbs
      refine Fw.region ?_
      refine Fw.call cf18 rfl rfl (new_any _) ?_
      rintro e_ w3 ⟨rfl, HF, hb⟩
      refine ⟨_, rfl, ?_⟩
      obtain ⟨B, hBe⟩ : ∃ B, B = w2.heap.size := ⟨_, rfl⟩
      rw [← hBe] at HF ⊢
      have hBn : w.heap.size ≤ B := by rw [hBe]; exact HB.size
      replace HB := HB.trans (hb.mono HB.size)
      clear hb
      refine Fw.s (Fw.val_assign rfl) rfl ?_
      refine Fw.nil ?_
      refine hK8 _ _ ?_
      refine Fw.seq fun _ hK9 => ?_
      refine Fw.seq fun _ hK10 => ?_
      refine Fw.region ?_
      refine Fw.s (Fw.val_move rfl) rfl ?_
      refine Fw.s (Fw.val_move rfl) rfl ?_
      refine Fw.call cf19 rfl rfl (write_any _ B B none St.new b Ab cb HF (by decide) (hb0.low HB) (by unfold maxLen; omega)) ?_
      rintro e_ w4 ⟨rfl, hto⟩
      refine ⟨_, rfl, ?_⟩
      obtain ⟨g0, HF2, hc, -⟩ := hto
      have hk := Kf.file HF hc
      replace HB := HB.trans (hk.low.mono hBn)
      clear hk hc HF
      have HF := HF2
      clear HF2
      rw [(St.write0 b (by omega)).1] at HF
      rw [(St.write0 b (by omega)).2]
      refine Fw.s (Fw.Val.F (Fw.val_bin rfl rfl Fw.b_neq) (by exact fun h_ => h_ rfl)) rfl ?_
      refine Fw.nil ?_
      refine hK10 _ _ ?_
      refine Fw.condF rfl ?_
      refine Fw.skip ?_
      refine hK9 _ _ ?_
      refine Fw.seq fun _ hK11 => ?_
      refine Fw.region ?_
      refine Fw.s (Fw.val_move rfl) rfl ?_
      refine Fw.call cf20 rfl rfl (open_any _ B B _ b 0 HF (by simp; try omega) (by first | assumption | (intro x hx; cases hx))) ?_
      rintro e_ w5 ⟨p, g1, L, n, rfl, hV, HJ, hLn, hbB⟩
      refine ⟨_, rfl, ?_⟩
      replace HB := HB.trans (hbB.mono hBn)
      clear hbB HF
      refine Fw.s (Fw.val_move rfl) rfl ?_
      refine Fw.s (Fw.val_extract rfl rfl) rfl ?_
      refine Fw.s (Fw.val_extract rfl rfl) rfl ?_
      refine Fw.s (Fw.val_assign rfl) rfl ?_
      refine Fw.s (Fw.val_assign rfl) rfl ?_
      refine Fw.nil ?_
      refine hK11 _ _ (Fw.FC.sub (f' := [(7, _), (6, _), (5, _), (0, _), (1, _)]) (.cons rfl (.cons rfl (.cons rfl (.cons rfl (.cons rfl .nil))))) ?_)
      refine Fw.seq fun _ hK12 => ?_
      refine Fw.seq fun _ hK13 => ?_
      refine Fw.region ?_
      refine Fw.s (Fw.val_move rfl) rfl ?_
      refine Fw.s (Fw.Val.F (Fw.val_bin rfl rfl Fw.b_neq) (by exact fun h_ => h_ rfl)) rfl ?_
      refine Fw.s (Fw.val_move rfl) rfl ?_
      refine Fw.gT (d := 38) rfl rfl ?_
      refine Fw.s (Fw.val_move rfl) rfl ?_
      refine Fw.gT (d := 38) rfl rfl ?_
      refine Fw.s (Fw.val_bin rfl rfl (Fw.b_nilP Try.underlying44)) rfl ?_
      refine Fw.s (Fw.val_pickF rfl rfl) rfl ?_
      refine Fw.nil ?_
      refine hK13 _ _ ?_
      refine Fw.condF rfl ?_
      refine Fw.skip ?_
      refine hK12 _ _ (Fw.FC.sub (f' := [(6, _), (5, _), (0, _), (1, _)]) (.cons rfl (.cons rfl (.cons rfl (.cons rfl .nil)))) ?_)
      refine Fw.seq fun _ hK14 => ?_
      refine Fw.region ?_
      refine Fw.s (Fw.val_move rfl) rfl ?_
      refine Fw.call cf21 rfl rfl (jread_any _ Ab b cb (hb0.low HB) hb (by omega) hcb g1 HJ.ltg) ?_
      rintro e_ w6 ⟨M, AM, cM, m, hV2, rfl, HWt, hb_, hLn2⟩
      refine ⟨_, rfl, ?_⟩
      have hBM : B ≤ w5.heap.size := HJ.lt.2.2
      replace HWt := HWt.up (show B ≤ _ from hBM) (Nat.zero_le B)
      have hpre := hV.pre
      have hVo := hV2.ok
      obtain ⟨hLM, rfl⟩ := hV.eq (b := []) hV2
      have hnb := hV2.len
      replace HJ := HJ.low hb_
      replace HB := HB.trans (hb_.mono HB.size)
      clear hb_
      refine Fw.s (Fw.val_move rfl) rfl ?_
      refine Fw.s (Fw.val_extract rfl rfl) rfl ?_
      refine Fw.s (Fw.val_extract rfl rfl) rfl ?_
      refine Fw.s (Fw.val_assign rfl) rfl ?_
      refine Fw.s (Fw.val_assign rfl) rfl ?_
      refine Fw.nil ?_
      refine hK14 _ _ (Fw.FC.sub (f' := [(8, _), (6, _), (5, _), (1, _)]) (.cons rfl (.cons rfl (.cons rfl (.cons rfl .nil)))) ?_)
      refine Fw.seq fun _ hK15 => ?_
      refine Fw.seq fun _ hK16 => ?_
      have hLl0 : L.length = M.length := by rw [← rs_len, hLM, rs_len]
      refine Fw.region ?_
      refine Fw.s (Fw.val_move rfl) rfl ?_
      refine Fw.call cf23 rfl rfl (jall_any _ B p B _ _ L HJ (by omega) (recs_small hLM (fun r hr => Nat.le_trans (hVo r hr).2 (by decide)))) ?_
      rintro e_ w7 ⟨Q, AQ, cQ, rfl, hQ, HQ, hb⟩
      refine ⟨_, rfl, ?_⟩
      replace HWt := HWt.low hb (by have := HJ.lt; omega)
      replace HJ := HJ.low hb
      replace HB := HB.trans (hb.mono HB.size)
      clear hb
      have hQl : Q.length = L.length := by rw [← rs_len, hQ, rs_len]
      refine Fw.s (Fw.val_move rfl) rfl ?_
      refine Fw.call cf22 rfl rfl (jsame_any _ AQ Q cQ AM M cM HQ.recs HWt.recs (by unfold maxLen; omega) (rs_ok (P := fun r => Ck.Bts r.b) (fun r hr => by rw [hQ, hLM] at hr; exact (hVo r hr).1.2)) (rs_ok (P := fun r => Ck.Bts r.b) (fun r hr => (hVo r hr).1.2))) ?_
      rintro e_ w8 ⟨rfl, hb⟩
      refine ⟨_, rfl, ?_⟩
      replace HWt := HWt.low hb (by have := HJ.lt; omega)
      replace HJ := HJ.low hb
      replace HQ := HQ.low hb (Nat.zero_le _)
      replace HB := HB.trans (hb.mono HB.size)
      clear hb
      refine Fw.bT (by exact decide_eq_true (hQ.trans hLM)) ?_
      refine Fw.s (Fw.val_not rfl) rfl ?_
      refine Fw.nil ?_
      refine hK16 _ _ ?_
      refine Fw.condF rfl ?_
      refine Fw.skip ?_
      refine hK15 _ _ ?_
      refine Fw.seq fun _ hK17 => ?_
      refine Fw.seq fun _ hK18 => ?_
      refine Fw.region ?_
      refine Fw.s (Fw.val_move rfl) rfl ?_
      refine Fw.s (Fw.val_len Try.underlying22 rfl) rfl ?_
      refine Fw.s (Fw.val_move rfl) rfl ?_
      refine Fw.nil ?_
      refine hK18 _ _ ?_
      refine Fw.block ?_
      replace HJ : JAt w8 B p B g1 ⟨Jr.encs Jr.s0 (rs M), (b.take n).length, false⟩ L := by rw [hpre, hLM] at HJ; rw [hpre, hLM]; exact HJ
      obtain ⟨N0, hN0⟩ : ∃ x, x = (b.take n).length := ⟨_, rfl⟩
      rw [← hN0] at HJ
      refine Fw.loop (fun m_ f_ W_ => ∃ (k : Nat) (g_ : Option Nat) (L_ : List Rv) (M_ : List Rv) (A_ : Option Addr) (c_ : Nat), m_ = l.length - k ∧ k ≤ l.length ∧ rs L_ = rs M_ ∧ M_.length ≤ 200 + k ∧ (∀ r ∈ rs M_, r.ok ∧ r.b.length ≤ 8192) ∧ RecO W_ g_ B B 28 A_ c_ M_ ∧ JAt W_ B p B g_ ⟨Jr.encs Jr.s0 (rs M_), N0, false⟩ L_ ∧ Below (w.heap.size) w W_ ∧ f_ = [(54, .int .i64 k), (53, .int .i64 l.length), (52, .slice A l.length c), (8, .slice A_ M_.length c_), (6, .pointer (some ⟨p, 0, none⟩)), (5, .pointer (some ⟨B, 0, none⟩))]) ⟨_, _, ⟨0, g1, L, M, AM, cM, rfl, Nat.zero_le _, hLM, by omega, hVo, HWt, HJ, HB, rfl⟩, (.cons rfl (.cons rfl (.cons rfl (.cons rfl (.cons rfl (.cons rfl .nil))))))⟩ ?_
      clear HWt HJ HB
      rintro m19_ _ w9 ⟨k, g_, L_, M_, A_, c_, hm19_, hkl, hL, hMl, hM, HWt, HJ, HB, rfl⟩
      refine Fw.seq fun _ hK20 => ?_
      refine Fw.region ?_
      refine Fw.s2 (Fw.val_bin rfl rfl Fw.b_lss) rfl ?_ ?_
      · rintro hk
        refine Fw.nil ?_
        refine hK20 _ _ ?_
        refine Fw.seq fun _ hK22 => ?_
        refine Fw.condT rfl ?_
        refine Fw.skip ?_
        refine hK22 _ _ ?_
        refine Fw.seq fun _ hK23 => ?_
        refine Fw.block ?_
        refine Fw.seq fun _ hK24 => ?_
        have hkn : k < l.length := by omega
        have hbk := hbs _ (List.getElem_mem hkn)
        have hLl : L_.length = M_.length := by rw [← rs_len, hL, rs_len]
        have hen : (Jr.encs Jr.s0 (rs M_)).length ≤ 1808400 := Nat.le_trans (jenc_le hM) (by omega)
        obtain ⟨ad, b_, o_, hA, hadd, HE⟩ := Fw.rdAt Rv.len (by decide) (h.low HB).1 k hkn
        refine Fw.region ?_
        refine Fw.s (Fw.val_indexR Try.underlying22 sz28 rfl hA rfl rfl hkn hadd) rfl ?_
        refine Fw.ldA ag28 rfl (HE) rfl rfl ?_
        refine Fw.alloc ze28 rfl ?_
        intro w10 gXv egXv HXv hb
        have hBx : B ≤ gXv := by have := HJ.lt; omega
        have hxo : ¬ some gXv = (Value.slice A_ M_.length c_).ownBlock := HWt.out (by omega)
        have lgXv : w.heap.size ≤ gXv := by have := HB.size; omega
        clear HE
        replace HWt := HWt.low hb (by have := HJ.lt; omega)
        replace HJ := HJ.low hb
        replace HB := HB.trans (hb.mono HB.size)
        clear hb
        clear egXv
        refine Fw.storeW sz28 rfl rfl HXv rfl rfl (by exact Fw.oneCells rfl) ?_
        intro w11 N_ hc
        replace HWt := HWt.box HXv hc hBx (by have := HJ.lt; omega) hxo (by decide)
        replace HJ := HJ.keep (Kf.box (B := B) (g := none) HXv hc hBx)
        replace HB := HB.trans (hc.below (B := w.heap.size) (fun k e => by omega) HB.size)
        clear hc
        clear HXv
        have HXv := N_
        clear N_
        refine Fw.nil ?_
        refine hK24 _ _ ?_
        refine Fw.seq fun _ hK26 => ?_
        refine Fw.seq fun _ hK27 => ?_
        refine Fw.region ?_
        refine Fw.s (Fw.val_move rfl) rfl ?_
        refine Fw.ldA ag28 rfl (Fw.rdBlk HXv) rfl rfl ?_
        refine Fw.call cf12 rfl rfl (jown_any _ l[k].k l[k].A l[k].b.length l[k].c) ?_
        rintro e_ w12 ⟨rfl, hb⟩
        refine ⟨_, rfl, ?_⟩
        replace HWt := HWt.low hb (by have := HJ.lt; omega)
        replace HJ := HJ.low hb
        replace HXv := HXv.low hb
        replace HB := HB.trans (hb.mono HB.size)
        clear hb
        refine Fw.call cf24 rfl rfl (jappend_any _ B p _ _ ⟨Jr.encs Jr.s0 (rs M_), N0, false⟩ L_ l[k].k l[k].A l[k].b l[k].c HJ (Bod.old (h.at k hkn) hBn HB) (by show (Jr.encs Jr.s0 (rs M_)).length ≤ _; omega) (by omega)) ?_
        rintro e_ w13 ⟨g2, L2, rfl, HJ2, hL2, hk, hg2⟩
        refine ⟨_, rfl, ?_⟩
        replace HWt := HWt.kf hk (by decide) (by decide) (by decide) hg2
        replace HXv := HXv.kf hk (by decide) (by decide)
        replace HB := HB.trans (hk.low.mono hBn)
        clear hk HJ
        have HJ := HJ2
        clear HJ2
        obtain ⟨e1, e2, e3⟩ := Jr.ap_ok (D := Jr.encs Jr.s0 (rs M_)) (n := N0) (s := Jr.sealF Jr.s0 (rs L_)) (r := ⟨l[k].k, l[k].b⟩) (by show l[k].b.length ≤ _; omega) (by have := Jr.one_le (s := Jr.sealF Jr.s0 (rs L_)) (r := ⟨l[k].k, l[k].b⟩) (by show l[k].b.length ≤ _; omega); omega)
        rw [e1]
        rw [e2, hL, ← show Jr.encs Jr.s0 (rs (M_ ++ [l[k]])) = Jr.encs Jr.s0 (rs M_) ++ Jr.one (Jr.sealF Jr.s0 (rs M_)) ⟨l[k].k, l[k].b⟩ by rw [rs_append]; exact Jr.encs_snoc _ _ _] at HJ
        rw [e3, hL, ← show rs (M_ ++ [l[k]]) = rs M_ ++ [(⟨l[k].k, l[k].b⟩ : Jr.R)] from rs_append _ _] at hL2
        refine Fw.s (Fw.Val.F (Fw.val_bin rfl rfl Fw.b_neq) (by exact fun h_ => h_ rfl)) rfl ?_
        refine Fw.nil ?_
        refine hK27 _ _ (Fw.FC.sub (f' := [(62, _), (11, _), (54, _), (53, _), (52, _), (8, _), (6, _), (5, _)]) (.cons rfl (.cons rfl (.cons rfl (.cons rfl (.cons rfl (.cons rfl (.cons rfl (.cons rfl .nil)))))))) ?_)
        refine Fw.condF rfl ?_
        refine Fw.skip ?_
        refine hK26 _ _ ?_
        refine Fw.region ?_
        refine Fw.s (Fw.val_move rfl) rfl ?_
        refine Fw.ldA ag28 rfl (Fw.rdBlk HXv) rfl rfl ?_
        refine Fw.buildSlice [_] sl22 rfl rfl (by exact Fw.allSz rfl) (by decide) rfl ?_
        intro w14 gS65 egS65 HS65 hb
        have n_gXv_gS65 : gXv < gS65 := by have := HXv.lt; omega
        have lgS65 : w.heap.size ≤ gS65 := by have := HB.size; omega
        replace HWt := HWt.low hb (by have := HJ.lt; omega)
        replace HJ := HJ.low hb
        replace HXv := HXv.low hb
        replace HB := HB.trans (hb.mono HB.size)
        clear hb
        clear egS65
        have hbodk := Bod.old (B := B) (g := g2) (h.at k hkn) hBn HB
        have hBw2 := HJ.lt.2.2
        refine Fw.append (base := B) (M_ ++ [l[k]]).length ((M_ ++ [l[k]]).flatMap Rv.cells) sl22 rfl rfl HWt.1 (Fw.rdBlk HS65) rfl (Fw.oneCellsL rfl) (by unfold maxLen; omega) hBw2 (by simp) (by rw [List.flatMap_append]; rfl) rfl ?_
        intro A66 c66 w15 N_ hbb hc _
        have HW2 := RecO.snoc HWt (by decide) hbodk N_ hc hbb
        replace HJ := HJ.keep (Kf.row (g := none) HWt.1 hc hbb)
        replace HB := HB.trans (hbb.mono hBn)
        clear hbb hc HWt N_
        have HWt := HW2
        clear HW2
        refine Fw.s (Fw.val_assign rfl) rfl ?_
        refine Fw.nil ?_
        refine Fw.X_blockN ?_
        refine hK23 _ _ (Fw.FC.sub (f' := [(8, _), (54, _), (53, _), (52, _), (6, _), (5, _)]) (.cons rfl (.cons rfl (.cons rfl (.cons rfl (.cons rfl (.cons rfl .nil)))))) ?_)
        refine Fw.region ?_
        refine Fw.s (Fw.val_bin rfl rfl (Fw.b_add (Fw.i64_ok (by omega)))) rfl ?_
        refine Fw.s (Fw.val_move rfl) rfl ?_
        refine Fw.nil ?_
        refine Fw.roundEnd _ _ (by omega) ⟨k + 1, g2, L2, M_ ++ [l[k]], A66, c66, rfl, hkn, hL2, by simp; omega, mok hM (hok _ (List.getElem_mem hkn)) (by omega), HWt, HJ, HB, rfl⟩ (.cons rfl (.cons rfl (.cons rfl (.cons rfl (.cons rfl (.cons rfl .nil))))))
      · rintro hk
        refine Fw.nil ?_
        refine hK20 _ _ ?_
        refine Fw.seq fun _ hK28 => ?_
        refine Fw.condF rfl ?_
        refine Fw.exit ?_
        refine Fw.X_exit ?_
        refine Fw.X_exit ?_
        refine Fw.X_block ?_
        refine hK17 _ _ ?_
        refine Fw.seq fun _ hK29 => ?_
        obtain rfl : k = l.length := by omega
        have hLl : L_.length = M_.length := by rw [← rs_len, hL, rs_len]
        have hen : (Jr.encs Jr.s0 (rs M_)).length ≤ 1808400 := Nat.le_trans (jenc_le hM) (by omega)
        refine Fw.region ?_
        refine Fw.s (Fw.val_move rfl) rfl ?_
        refine Fw.call cf25 rfl rfl (sbytes_any _ B B _ ⟨Jr.encs Jr.s0 (rs M_), N0, false⟩ HJ.2.1 (by show (Jr.encs Jr.s0 (rs M_)).length ≤ _; omega) rfl) ?_
        rintro e_ w16 ⟨AD, cD, rfl, HD, hb⟩
        refine ⟨_, rfl, ?_⟩
        replace HWt := HWt.low hb (by have := HJ.lt; omega)
        replace HJ := HJ.low hb
        replace HB := HB.trans (hb.mono HB.size)
        clear hb
        refine Fw.s (Fw.val_move rfl) rfl ?_
        refine Fw.s (Fw.val_extract rfl rfl) rfl ?_
        refine Fw.s (Fw.val_extract rfl rfl) rfl ?_
        refine Fw.s (Fw.val_assign rfl) rfl ?_
        refine Fw.s (Fw.val_assign rfl) rfl ?_
        refine Fw.nil ?_
        refine hK29 _ _ (Fw.FC.sub (f' := [(13, _), (12, _), (8, _), (6, _)]) (.cons rfl (.cons rfl (.cons rfl (.cons rfl .nil)))) ?_)
        refine Fw.seq fun _ hK30 => ?_
        refine Fw.region ?_
        refine Fw.s (Fw.val_move rfl) rfl ?_
        refine Fw.call cf14 rfl rfl (jbytes_ok _ A_ M_ c_ HWt.recs (by omega) (own_cap HWt.1).1 (fun r hr => ⟨(hM r hr).1, Nat.le_trans (hM r hr).2 (by decide)⟩) (rs_ok2 hM (Nat.le_refl _))) ?_
        rintro e_ w17 ⟨AE, cE, rfl, HE2, hb⟩
        refine ⟨_, rfl, ?_⟩
        replace HWt := HWt.low hb (by have := HJ.lt; omega)
        replace HJ := HJ.low hb
        replace HD := own_below HD hb (Nat.le_refl _)
        replace HB := HB.trans (hb.mono HB.size)
        clear hb
        refine Fw.s (Fw.val_move rfl) rfl ?_
        refine Fw.s (Fw.val_extract rfl rfl) rfl ?_
        refine Fw.s (Fw.val_extract rfl rfl) rfl ?_
        refine Fw.s (Fw.val_assign rfl) rfl ?_
        refine Fw.s (Fw.val_assign rfl) rfl ?_
        refine Fw.nil ?_
        refine hK30 _ _ ?_
        refine Fw.seq fun _ hK31 => ?_
        refine Fw.region ?_
        refine Fw.s (Fw.val_move rfl) rfl ?_
        refine Fw.call cf23 rfl rfl (jall_any _ B p B _ _ L_ HJ (by omega) (recs_small hL (fun r hr => Nat.le_trans (hM r hr).2 (by decide)))) ?_
        rintro e_ w18 ⟨Q2, AQ, cQ, rfl, hQ2, HQ2, hb⟩
        refine ⟨_, rfl, ?_⟩
        replace HWt := HWt.low hb (by have := HJ.lt; omega)
        replace HJ := HJ.low hb
        replace HD := own_below HD hb (Nat.le_refl _)
        replace HE2 := own_below HE2 hb (Nat.le_refl _)
        replace HB := HB.trans (hb.mono HB.size)
        clear hb
        have hQl2 : Q2.length = L_.length := by rw [← rs_len, hQ2, rs_len]
        refine Fw.s (Fw.val_move rfl) rfl ?_
        refine Fw.call cf22 rfl rfl (jsame_any _ AQ Q2 cQ A_ M_ c_ HQ2.recs HWt.recs (by unfold maxLen; omega) (rs_ok (P := fun r => Ck.Bts r.b) (fun r hr => by rw [hQ2, hL] at hr; exact (hM r hr).1.2)) (rs_ok (P := fun r => Ck.Bts r.b) (fun r hr => (hM r hr).1.2))) ?_
        rintro e_ w19 ⟨rfl, hb⟩
        refine ⟨_, rfl, ?_⟩
        replace HWt := HWt.low hb (by have := HJ.lt; omega)
        replace HJ := HJ.low hb
        replace HD := own_below HD hb (Nat.le_refl _)
        replace HE2 := own_below HE2 hb (Nat.le_refl _)
        replace HQ2 := HQ2.low hb (Nat.zero_le _)
        replace HB := HB.trans (hb.mono HB.size)
        clear hb
        refine Fw.bT (by exact decide_eq_true (hQ2.trans hL)) ?_
        refine Fw.s (Fw.val_move rfl) rfl ?_
        refine Fw.gT (d := 82) rfl rfl ?_
        refine Fw.s (Fw.val_move rfl) rfl ?_
        refine Fw.gT (d := 82) rfl rfl ?_
        refine Fw.s (Fw.Val.T (Fw.val_bin rfl rfl Fw.b_eql) (by rfl)) rfl ?_
        refine Fw.s (Fw.val_pickT rfl rfl) rfl ?_
        refine Fw.s (Fw.val_move rfl) rfl ?_
        refine Fw.gT (d := 86) rfl rfl ?_
        refine Fw.s (Fw.val_move rfl) rfl ?_
        refine Fw.gT (d := 86) rfl rfl ?_
        refine Fw.s (Fw.val_str (l := (Jr.encs Jr.s0 (rs M_))) Try.underlying26 Try.underlying5 Try.underlying9 rfl (fun _ h_ => h_ ▸ Rd.of_own HD) rfl) rfl ?_
        refine Fw.gT (d := 86) rfl rfl ?_
        refine Fw.s (Fw.val_move rfl) rfl ?_
        refine Fw.gT (d := 86) rfl rfl ?_
        refine Fw.s (Fw.val_str (l := (Jr.encs Jr.s0 (rs M_))) Try.underlying26 Try.underlying5 Try.underlying9 rfl (fun _ h_ => h_ ▸ Rd.of_own HE2) rfl) rfl ?_
        refine Fw.gT (d := 86) rfl rfl ?_
        refine Fw.s (Fw.Val.T (Fw.val_bin rfl rfl Fw.b_eqlS) (by rfl)) rfl ?_
        refine Fw.s (Fw.val_pickT rfl rfl) rfl ?_
        refine Fw.s (Fw.val_assign rfl) rfl ?_
        refine Fw.nil ?_
        refine hK31 _ _ (Fw.FC.sub (f' := [(4, _)]) (.cons rfl .nil) ?_)
        refine Fw.ret ?_
        refine Fw.ret_ [.tmp 4] [_] Try.results5 (.tmp rfl .nil) ?_
        exact ⟨rfl, HB⟩
    · rintro hsm
      refine Fw.gT (d := 21) rfl rfl ?_
      refine Fw.s (Fw.val_not rfl) rfl ?_
      refine Fw.s (Fw.val_pickF rfl rfl) rfl ?_
      refine Fw.nil ?_
      refine hK5 _ _ (Fw.FC.sub (f' := [(25, _), (0, _), (1, _)]) (.cons rfl (.cons rfl (.cons rfl .nil))) ?_)
      refine Fw.condT rfl ?_
      refine Fw.seq fun _ hK32 => ?_
      refine Fw.region ?_
      refine Fw.s (Fw.val_assign rfl) rfl ?_
      refine Fw.nil ?_
      refine hK32 _ _ ?_
      refine Fw.ret ?_
      refine Fw.X_ret ?_
      refine Fw.ret_ [.tmp 4] [_] Try.results5 (.tmp rfl .nil) ?_
      exact ⟨rfl, HB⟩

end Go.Proofs.Ytnljnnnplfjnhaa
