/- Layer 20: the reference reads all records, checks and compares. -/
import Derived.Test.YtnljnnnplfjnhaaJrF
namespace Go.Proofs.Ytnljnnnplfjnhaa
set_option linter.unusedSimpArgs false
set_option linter.unusedVariables false
open Go.RowKit

theorem same_step {a b : List Rv} {k : Nat} (h1 : k < a.length) (h2 : k < b.length) (h : (rs a).take k = (rs b).take k) (e1 : a[k].k = b[k].k) (e2 : a[k].b = b[k].b) : (rs a).take (k + 1) = (rs b).take (k + 1) := by
  rw [← rs_take, ← rs_take, rs_snoc a k h1, rs_snoc b k h2, rs_take, rs_take, h]
  congr 2
  show (⟨a[k].k, a[k].b⟩ : Jr.R) = ⟨b[k].k, b[k].b⟩
  rw [e1, e2]
theorem same_ne {a b : List Rv} {k : Nat} (h1 : k < a.length) (h2 : k < b.length) (h : ¬ (a[k].k = b[k].k ∧ a[k].b = b[k].b)) : ¬ rs a = rs b := fun e => h (by
  have := List.getElem_of_eq e (i := k) (by rw [rs_len]; exact h1)
  rw [rs_at a k h1, rs_at b k h2] at this
  exact ⟨congrArg Jr.R.k this, congrArg Jr.R.b this⟩)

set_option maxRecDepth 100000 in
set_option maxHeartbeats 1000000 in
theorem jread_any (w : World) (A : Option Addr) (b : List Int) (c : Nat) (h : Rd w A (b.map (.int .u8))) (hb : Ck.Bts b) (hl : b.length ≤ 1000000) (hc : b.length ≤ c) (g : Option Nat) (hg : ∀ k, g = some k → k < w.heap.size) : Calls Try.prog 21 #[.slice A b.length c] w fun e_ w' => ∃ (L : List Rv) (A' : Option Addr) (c' n : Nat), Jr.Val Jr.s0 b (rs L) n ∧ e_ = .returned (.tuple #[.slice A' L.length c', .int .i64 n]) ∧ RecO w' g w.heap.size 0 28 A' c' L ∧ Below w.heap.size w w' ∧ 10 * L.length ≤ n := by
  refine Fw.calls Try.func21 rfl Try.ntmps21 rfl ?_
  have HB := Below.refl (w.heap.size) w
  refine Fw.seq fun _ hK1 => ?_
  refine Fw.region ?_
  refine Fw.s (Fw.val_assign rfl) rfl ?_
  refine Fw.s (Fw.val_assign rfl) rfl ?_
  refine Fw.nil ?_
  refine hK1 _ _ ?_
  refine Fw.seq fun _ hK2 => ?_
  refine Fw.region ?_
  refine Fw.s (Fw.val_assign rfl) rfl ?_
  refine Fw.nil ?_
  refine hK2 _ _ ?_
  refine Fw.seq fun _ hK3 => ?_
  refine Fw.region ?_
  refine Fw.s (Fw.val_assign rfl) rfl ?_
  refine Fw.nil ?_
  refine hK3 _ _ ?_
  refine Fw.seq fun _ hK4 => ?_
  refine Fw.region ?_
  refine Fw.call cf35 rfl rfl (of0_any _) ?_
  rintro e_ w1 ⟨rfl, hb⟩
  refine ⟨_, rfl, ?_⟩
  replace HB := HB.trans (hb.mono HB.size)
  clear hb
  refine Fw.s (Fw.val_assign rfl) rfl ?_
  refine Fw.nil ?_
  refine hK4 _ _ ?_
  refine Fw.block ?_
  have HO : RecO w1 g w.heap.size 0 28 none 0 [] := RecO.nil _ _ _ _ _
  refine Fw.loop (fun m_ f_ W_ => ∃ (n : Nat) (L : List Rv) (A_ : Option Addr) (c_ : Nat), m_ = b.length - n ∧ n ≤ b.length ∧ 10 * L.length ≤ n ∧ b.take n = Jr.encs Jr.s0 (rs L) ∧ (∀ r ∈ rs L, r.ok ∧ r.b.length ≤ 8192) ∧ RecO W_ g w.heap.size 0 28 A_ c_ L ∧ Below (w.heap.size) w W_ ∧ f_ = [(6, .int .u64 (Jr.sealF Jr.s0 (rs L))), (5, .int .i64 n), (4, .slice A_ L.length c_), (0, .slice A b.length c)]) ⟨_, _, ⟨0, [], none, 0, rfl, Nat.zero_le _, Nat.le_refl _, rfl, fun r hr => (by cases hr), HO, HB, rfl⟩, (.cons rfl (.cons rfl (.cons rfl (.cons rfl .nil))))⟩ ?_
  clear HO HB
  rintro m5_ _ w2 ⟨n, L, A_, c_, hm5_, hn, hLn, hp, hok, HO, HB, rfl⟩
  refine Fw.block ?_
  refine Fw.seq fun _ hK6 => ?_
  have hdr : Rd w2 (cutA A c n 1) ((b.drop n).map (.int .u8)) := by have := (h.low HB).cut (size := 1) c n (by rw [List.length_map]; omega); rw [Nat.mul_one, ← List.map_drop] at this; exact this
  refine Fw.region ?_
  refine Fw.s (Fw.val_move rfl) rfl ?_
  refine Fw.s (Fw.val_move rfl) rfl ?_
  refine Fw.s (Fw.val_move rfl) rfl ?_
  refine Fw.s (Fw.val_sliceFrom (m := n) Try.underlying26 sz5 rfl rfl rfl hn) rfl ?_
  refine Fw.call cf40 rfl rfl (by have := jfirst_any w2 (Jr.sealF Jr.s0 (rs L)) (cutA A c n 1) (b.drop n) (c - n) hdr (fun x hx => hb x (List.mem_of_mem_drop hx)) (by rw [List.length_drop]; omega) (by rw [List.length_drop]; omega) (Jr.sealF_U64 _ _ Jr.s0_U64); rw [List.length_drop] at this; exact this) ?_
  rintro e_ w3 ⟨A3, c3, rfl, HP, hb_⟩
  refine ⟨_, rfl, ?_⟩
  have hgP : ∀ k, g = some k → k < w2.heap.size := fun k e => Nat.lt_of_lt_of_le (hg k e) HB.size
  replace HO := HO.low hb_ (Nat.zero_le _)
  replace HB := HB.trans (hb_.mono HB.size)
  clear hb_
  refine Fw.s (Fw.val_move rfl) rfl ?_
  refine Fw.s (Fw.val_extract rfl rfl) rfl ?_
  refine Fw.s (Fw.val_extract rfl rfl) rfl ?_
  refine Fw.s (Fw.val_extract rfl rfl) rfl ?_
  refine Fw.b2 ?_ ?_
  · rintro hs
    refine Fw.alloc ze28 rfl ?_
    intro w4 gXv egXv HXv hb
    have hxo : ∀ g_, (Value.slice A_ L.length c_).ownBlock = some g_ → g_ < gXv := fun g_ h_ => by have := (HO.1.lt g_ h_).2; omega
    replace hxo : ¬ some gXv = (Value.slice A_ L.length c_).ownBlock := fun e_ => Nat.lt_irrefl _ (hxo gXv e_.symm)
    have lgXv : w.heap.size ≤ gXv := by have := HB.size; omega
    replace HO := HO.low hb (Nat.zero_le _)
    replace HP := own_below HP hb (Nat.le_refl _)
    replace HB := HB.trans (hb.mono HB.size)
    clear hb
    clear egXv
    refine Fw.storeW sz28 rfl rfl HXv rfl rfl (by exact Fw.oneCells rfl) ?_
    intro w5 N_ hc
    replace HO := HO.box HXv hc (Nat.zero_le _) (Nat.zero_le _) hxo (by decide)
    replace HP := own_to HP hc (fun g_ h_ e_ => own_ne HP HXv (by decide) (by rw [h_, e_]))
    replace HB := HB.trans (hc.below (B := w.heap.size) (fun k e => by omega) HB.size)
    clear hc
    clear HXv
    have HXv := N_
    clear N_
    refine Fw.s (Fw.val_assign rfl) rfl ?_
    refine Fw.s (Fw.val_assign rfl) rfl ?_
    refine Fw.nil ?_
    refine hK6 _ _ (Fw.FC.sub (f' := [(9, _), (8, _), (7, _), (6, _), (5, _), (4, _), (0, _)]) (.cons rfl (.cons rfl (.cons rfl (.cons rfl (.cons rfl (.cons rfl (.cons rfl .nil))))))) ?_)
    refine Fw.seq fun _ hK7 => ?_
    refine Fw.seq fun _ hK8 => ?_
    refine Fw.region ?_
    refine Fw.s (Fw.val_move rfl) rfl ?_
    refine Fw.s (Fw.val_not rfl) rfl ?_
    refine Fw.nil ?_
    refine hK8 _ _ ?_
    refine Fw.condF rfl ?_
    refine Fw.skip ?_
    refine hK7 _ _ ?_
    refine Fw.seq fun _ hK9 => ?_
    obtain ⟨⟨r, m⟩, hf⟩ := Option.isSome_iff_exists.1 hs
    obtain ⟨z1, z2, z3, -⟩ := Jr.f_some hf
    obtain ⟨v1, v2, v4, v5, v6, v7⟩ := Jr.val_step hb hn hp hf
    have v8 : 10 ≤ m := by have := Wr.enc_pos (r.b.length : Nat); rw [v7, Jr.one_len]; omega
    have v3 : ∀ x ∈ rs L ++ [r], x.ok ∧ x.b.length ≤ 8192 := fun x hx => by
      rcases List.mem_append.1 hx with h1 | h1
      · exact hok x h1
      · simp at h1; subst h1; exact ⟨v4, v5⟩
    rw [z1] at HXv HP
    rw [z2]
    refine Fw.region ?_
    refine Fw.s (Fw.val_move rfl) rfl ?_
    refine Fw.ldA ag28 rfl (Fw.rdBlk HXv) rfl rfl ?_
    refine Fw.buildSlice [_] sl22 rfl rfl (by exact Fw.allSz rfl) (by decide) rfl ?_
    intro w6 gS26 egS26 HS26 hb
    have n_gXv_gS26 : gXv < gS26 := by have := HXv.lt; omega
    have lgS26 : w.heap.size ≤ gS26 := by have := HB.size; omega
    replace HO := HO.low hb (Nat.zero_le _)
    replace HP := own_below HP hb (Nat.le_refl _)
    replace HXv := HXv.low hb
    replace HB := HB.trans (hb.mono HB.size)
    clear hb
    clear egS26
    refine Fw.append (base := w.heap.size) (L ++ [(⟨r.k, r.b, A3, c3⟩ : Rv)]).length ((L ++ [(⟨r.k, r.b, A3, c3⟩ : Rv)]).flatMap Rv.cells) sl22 rfl rfl HO.1 (Fw.rdBlk HS26) rfl (Fw.oneCellsL rfl) (by unfold maxLen; omega) HB.size (by simp) (by rw [List.flatMap_append]; rfl) rfl ?_
    intro A27 c27 w7 N_ hbb hc _

    have HO2 := RecO.snoc HO (by decide) (Bod.new HP hgP) N_ hc (hbb.mono (Nat.zero_le _))
    replace HXv := HXv.chg hc hxo
    replace HB := HB.trans hbb
    clear hbb hc HO N_
    have HO := HO2
    clear HO2
    refine Fw.s (Fw.val_assign rfl) rfl ?_
    refine Fw.nil ?_
    refine hK9 _ _ (Fw.FC.sub (f' := [(4, _), (8, _), (7, _), (6, _), (5, _), (0, _)]) (.cons rfl (.cons rfl (.cons rfl (.cons rfl (.cons rfl (.cons rfl .nil)))))) ?_)
    refine Fw.seq fun _ hK10 => ?_
    refine Fw.region ?_
    refine Fw.s (Fw.val_move rfl) rfl ?_
    refine Fw.s (Fw.val_fieldAddr fl28_0 rfl rfl) rfl ?_
    refine Fw.ld sc5 rfl (HXv.cell 0) rfl ?_
    refine Fw.s (Fw.val_fieldAddr fl28_1 rfl rfl) rfl ?_
    refine Fw.ld sc26 rfl (HXv.cell 1) rfl ?_
    refine Fw.call cf36 rfl rfl (link_any (Jr.sealF Jr.s0 (rs L)) r.k A3 r.b c3 _ (HO.2 ⟨r.k, r.b, A3, c3⟩ (by simp)).1 (by omega) (Jr.sealF_U64 _ _ Jr.s0_U64) v4.1 v4.2) ?_
    rintro e_ w8 ⟨rfl, hb⟩
    refine ⟨_, rfl, ?_⟩
    replace HO := HO.low hb (Nat.zero_le _)
    replace HXv := HXv.low hb
    replace HB := HB.trans (hb.mono HB.size)
    clear hb
    refine Fw.s (Fw.val_assign rfl) rfl ?_
    refine Fw.nil ?_
    refine hK10 _ _ (Fw.FC.sub (f' := [(6, _), (4, _), (8, _), (5, _), (0, _)]) (.cons rfl (.cons rfl (.cons rfl (.cons rfl (.cons rfl .nil))))) ?_)
    refine Fw.region ?_
    refine Fw.s (Fw.val_move rfl) rfl ?_
    refine Fw.s (Fw.val_move rfl) rfl ?_
    refine Fw.s (Fw.val_bin rfl rfl (Fw.b_add (Fw.i64_ok (by omega)))) rfl ?_
    refine Fw.s (Fw.val_assign rfl) rfl ?_
    refine Fw.nil ?_
    refine Fw.X_blockN ?_
    rw [← show Jr.sealF Jr.s0 (rs (L ++ [(⟨r.k, r.b, A3, c3⟩ : Rv)])) = Ck.recI (Jr.sealF Jr.s0 (rs L)) r.k r.b by rw [rs_append]; exact Jr.sealF_snoc _ _ _]
    refine Fw.roundEnd _ _ (by omega) ⟨n + m, L ++ [⟨r.k, r.b, A3, c3⟩], A27, c27, rfl, v1, by simp; omega, by rw [rs_append]; exact v2, by rw [rs_append]; exact v3, HO, HB, rfl⟩ (.cons rfl (.cons rfl (.cons rfl (.cons rfl .nil))))
  · rintro hs
    refine Fw.alloc ze28 rfl ?_
    intro w9 gXv egXv HXv hb
    have hxo : ∀ g_, (Value.slice A_ L.length c_).ownBlock = some g_ → g_ < gXv := fun g_ h_ => by have := (HO.1.lt g_ h_).2; omega
    replace hxo : ¬ some gXv = (Value.slice A_ L.length c_).ownBlock := fun e_ => Nat.lt_irrefl _ (hxo gXv e_.symm)
    have lgXv : w.heap.size ≤ gXv := by have := HB.size; omega
    replace HO := HO.low hb (Nat.zero_le _)
    replace HP := own_below HP hb (Nat.le_refl _)
    replace HB := HB.trans (hb.mono HB.size)
    clear hb
    clear egXv
    refine Fw.storeW sz28 rfl rfl HXv rfl rfl (by exact Fw.oneCells rfl) ?_
    intro w10 N_ hc
    replace HO := HO.box HXv hc (Nat.zero_le _) (Nat.zero_le _) hxo (by decide)
    replace HP := own_to HP hc (fun g_ h_ e_ => own_ne HP HXv (by decide) (by rw [h_, e_]))
    replace HB := HB.trans (hc.below (B := w.heap.size) (fun k e => by omega) HB.size)
    clear hc
    clear HXv
    have HXv := N_
    clear N_
    refine Fw.s (Fw.val_assign rfl) rfl ?_
    refine Fw.s (Fw.val_assign rfl) rfl ?_
    refine Fw.nil ?_
    refine hK6 _ _ (Fw.FC.sub (f' := [(9, _), (8, _), (7, _), (6, _), (5, _), (4, _), (0, _)]) (.cons rfl (.cons rfl (.cons rfl (.cons rfl (.cons rfl (.cons rfl (.cons rfl .nil))))))) ?_)
    refine Fw.seq fun _ hK11 => ?_
    refine Fw.seq fun _ hK12 => ?_
    refine Fw.region ?_
    refine Fw.s (Fw.val_move rfl) rfl ?_
    refine Fw.s (Fw.val_not rfl) rfl ?_
    refine Fw.nil ?_
    refine hK12 _ _ ?_
    refine Fw.condT rfl ?_
    refine Fw.seq fun _ hK13 => ?_
    have hf : Jr.first (Jr.sealF Jr.s0 (rs L)) (b.drop n) = none := by
      cases h_ : Jr.first (Jr.sealF Jr.s0 (rs L)) (b.drop n) with
      | none => rfl
      | some x => rw [h_] at hs; cases hs
    have hV : Jr.Val Jr.s0 b (rs L) n := ⟨hn, hp, hok, hf⟩
    refine Fw.region ?_
    refine Fw.s (Fw.val_move rfl) rfl ?_
    refine Fw.s (Fw.val_move rfl) rfl ?_
    refine Fw.s (Fw.val_assign rfl) rfl ?_
    refine Fw.s (Fw.val_assign rfl) rfl ?_
    refine Fw.nil ?_
    refine hK13 _ _ (Fw.FC.sub (f' := [(3, _), (2, _)]) (.cons rfl (.cons rfl .nil)) ?_)
    refine Fw.ret ?_
    refine Fw.X_ret ?_
    refine Fw.X_blockR ?_
    refine Fw.X_ret ?_
    refine Fw.X_blockR ?_
    refine Fw.ret_ [.tmp 2, .tmp 3] [_, _] Try.results21 (.tmp rfl (.tmp rfl .nil)) ?_
    exact ⟨L, _, _, n, hV, rfl, HO, HB, hLn⟩

set_option maxRecDepth 100000 in
set_option maxHeartbeats 1000000 in
theorem jcheck_any (w : World) (A : Option Addr) (b : List Int) (c : Nat) (s : Int) (h : Rd w A (b.map (.int .u8))) (hb : Ck.Bts b) (hl : b.length ≤ 1000000) (hc : b.length ≤ c) : Calls Try.prog 17 #[.slice A b.length c, .int .u64 s] w fun e_ w' => ∃ (L : List Jr.R) (n : Nat), Jr.Val Jr.s0 b L n ∧ e_ = .returned (.tuple #[.int .i64 L.length, .int .i64 n, .int .i64 (if n < b.length then 2 else if Jr.sealF Jr.s0 L ≠ s then 15 else 0)]) ∧ Below w.heap.size w w' := by
  refine Fw.calls Try.func17 rfl Try.ntmps17 rfl ?_
  have HB := Below.refl (w.heap.size) w
  refine Fw.seq fun _ hK1 => ?_
  refine Fw.region ?_
  refine Fw.s (Fw.val_assign rfl) rfl ?_
  refine Fw.s (Fw.val_assign rfl) rfl ?_
  refine Fw.s (Fw.val_assign rfl) rfl ?_
  refine Fw.nil ?_
  refine hK1 _ _ ?_
  refine Fw.seq fun _ hK2 => ?_
  refine Fw.region ?_
  refine Fw.s (Fw.val_move rfl) rfl ?_
  refine Fw.call cf21 rfl rfl (jread_any _ A b c (h.low HB) hb hl hc none (fun k e => by cases e)) ?_
  rintro e_ w1 ⟨L, A2, c2, n, hV, rfl, HO, hb_, hLn⟩
  refine ⟨_, rfl, ?_⟩
  replace HO := HO.recs
  replace HB := HB.trans (hb_.mono HB.size)
  clear hb_
  have hnl := hV.len
  have hokL : Jr.okL (rs L) := fun r hr => ⟨(hV.ok r hr).1, by have := (hV.ok r hr).2; omega⟩
  refine Fw.s (Fw.val_move rfl) rfl ?_
  refine Fw.s (Fw.val_extract rfl rfl) rfl ?_
  refine Fw.s (Fw.val_extract rfl rfl) rfl ?_
  refine Fw.s (Fw.val_assign rfl) rfl ?_
  refine Fw.s (Fw.val_assign rfl) rfl ?_
  refine Fw.nil ?_
  refine hK2 _ _ (Fw.FC.sub (f' := [(8, _), (7, _), (0, _), (1, _)]) (.cons rfl (.cons rfl (.cons rfl (.cons rfl .nil)))) ?_)
  refine Fw.seq fun _ hK3 => ?_
  refine Fw.seq fun _ hK4 => ?_
  refine Fw.region ?_
  refine Fw.s (Fw.val_move rfl) rfl ?_
  refine Fw.s (Fw.val_move rfl) rfl ?_
  refine Fw.s (Fw.val_len Try.underlying26 rfl) rfl ?_
  refine Fw.s2 (Fw.val_bin rfl rfl Fw.b_lss) rfl ?_ ?_
  · rintro hlt
    refine Fw.nil ?_
    refine hK4 _ _ ?_
    refine Fw.condT rfl ?_
    refine Fw.seq fun _ hK6 => ?_
    refine Fw.region ?_
    refine Fw.s (Fw.val_move rfl) rfl ?_
    refine Fw.s (Fw.val_len Try.underlying22 rfl) rfl ?_
    refine Fw.s (Fw.val_move rfl) rfl ?_
    refine Fw.s (Fw.val_assign rfl) rfl ?_
    refine Fw.s (Fw.val_assign rfl) rfl ?_
    refine Fw.s (Fw.val_assign rfl) rfl ?_
    refine Fw.nil ?_
    refine hK6 _ _ (Fw.FC.sub (f' := [(6, _), (5, _), (4, _)]) (.cons rfl (.cons rfl (.cons rfl .nil))) ?_)
    refine Fw.ret ?_
    refine Fw.X_ret ?_
    refine Fw.ret_ [.tmp 4, .tmp 5, .tmp 6] [_, _, _] Try.results17 (.tmp rfl (.tmp rfl (.tmp rfl .nil))) ?_
    refine ⟨rs L, n, hV, ?_, HB⟩
    rw [rs_len, if_pos (by omega)]
    rfl
  · rintro hlt
    refine Fw.nil ?_
    refine hK4 _ _ ?_
    refine Fw.condF rfl ?_
    refine Fw.skip ?_
    refine hK3 _ _ ?_
    refine Fw.seq fun _ hK7 => ?_
    refine Fw.seq fun _ hK8 => ?_
    refine Fw.region ?_
    refine Fw.s (Fw.val_move rfl) rfl ?_
    refine Fw.call cf16 rfl rfl (seal_any _ A2 L c2 HO (by omega) hokL) ?_
    rintro e_ w2 ⟨rfl, hb⟩
    refine ⟨_, rfl, ?_⟩
    replace HO := HO.low hb
    replace HB := HB.trans (hb.mono HB.size)
    clear hb
    refine Fw.s (Fw.val_move rfl) rfl ?_
    refine Fw.s2 (Fw.val_bin rfl rfl Fw.b_neq) rfl ?_ ?_
    · rintro hs2
      refine Fw.nil ?_
      refine hK8 _ _ (Fw.FC.sub (f' := [(24, _), (8, _), (7, _)]) (.cons rfl (.cons rfl (.cons rfl .nil))) ?_)
      refine Fw.condT rfl ?_
      refine Fw.seq fun _ hK10 => ?_
      refine Fw.region ?_
      refine Fw.s (Fw.val_move rfl) rfl ?_
      refine Fw.s (Fw.val_len Try.underlying22 rfl) rfl ?_
      refine Fw.s (Fw.val_move rfl) rfl ?_
      refine Fw.s (Fw.val_assign rfl) rfl ?_
      refine Fw.s (Fw.val_assign rfl) rfl ?_
      refine Fw.s (Fw.val_assign rfl) rfl ?_
      refine Fw.nil ?_
      refine hK10 _ _ ?_
      refine Fw.ret ?_
      refine Fw.X_ret ?_
      refine Fw.ret_ [.tmp 4, .tmp 5, .tmp 6] [_, _, _] Try.results17 (.tmp rfl (.tmp rfl (.tmp rfl .nil))) ?_
      refine ⟨rs L, n, hV, ?_, HB⟩
      rw [rs_len, if_neg (by omega), if_pos hs2]
      rfl
    · rintro hs2
      refine Fw.nil ?_
      refine hK8 _ _ (Fw.FC.sub (f' := [(24, _), (8, _), (7, _)]) (.cons rfl (.cons rfl (.cons rfl .nil))) ?_)
      refine Fw.condF rfl ?_
      refine Fw.skip ?_
      refine hK7 _ _ ?_
      refine Fw.seq fun _ hK11 => ?_
      refine Fw.region ?_
      refine Fw.s (Fw.val_move rfl) rfl ?_
      refine Fw.s (Fw.val_len Try.underlying22 rfl) rfl ?_
      refine Fw.s (Fw.val_move rfl) rfl ?_
      refine Fw.s (Fw.val_assign rfl) rfl ?_
      refine Fw.s (Fw.val_assign rfl) rfl ?_
      refine Fw.s (Fw.val_assign rfl) rfl ?_
      refine Fw.nil ?_
      refine hK11 _ _ ?_
      refine Fw.ret ?_
      refine Fw.ret_ [.tmp 4, .tmp 5, .tmp 6] [_, _, _] Try.results17 (.tmp rfl (.tmp rfl (.tmp rfl .nil))) ?_
      refine ⟨rs L, n, hV, ?_, HB⟩
      rw [rs_len, if_neg (by omega), if_neg hs2]
      rfl

set_option maxRecDepth 100000 in
set_option maxHeartbeats 1000000 in
theorem jsame_any (w : World) (A : Option Addr) (l : List Rv) (c : Nat) (A2 : Option Addr) (l2 : List Rv) (c2 : Nat) (h : Recs w A l) (h2 : Recs w A2 l2) (hlm : l.length ≤ maxLen) (hb : ∀ v ∈ l, Ck.Bts v.b) (hb2 : ∀ v ∈ l2, Ck.Bts v.b) : Calls Try.prog 22 #[.slice A l.length c, .slice A2 l2.length c2] w fun e_ w' => e_ = .returned (.bool (decide (rs l = rs l2))) ∧ Below w.heap.size w w' := by
  unfold maxLen at hlm
  refine Fw.calls Try.func22 rfl Try.ntmps22 rfl ?_
  have HB := Below.refl (w.heap.size) w
  refine Fw.seq fun _ hK1 => ?_
  refine Fw.region ?_
  refine Fw.s (Fw.val_assign rfl) rfl ?_
  refine Fw.nil ?_
  refine hK1 _ _ ?_
  refine Fw.seq fun _ hK2 => ?_
  refine Fw.seq fun _ hK3 => ?_
  refine Fw.region ?_
  refine Fw.s (Fw.val_move rfl) rfl ?_
  refine Fw.s (Fw.val_len Try.underlying22 rfl) rfl ?_
  refine Fw.s (Fw.val_move rfl) rfl ?_
  refine Fw.s (Fw.val_len Try.underlying22 rfl) rfl ?_
  refine Fw.s2 (Fw.val_bin rfl rfl Fw.b_neq) rfl ?_ ?_
  · rintro hne
    refine Fw.nil ?_
    refine hK3 _ _ ?_
    refine Fw.condT rfl ?_
    refine Fw.seq fun _ hK5 => ?_
    refine Fw.region ?_
    refine Fw.s (Fw.val_assign rfl) rfl ?_
    refine Fw.nil ?_
    refine hK5 _ _ (Fw.FC.sub (f' := [(4, _)]) (.cons rfl .nil) ?_)
    refine Fw.ret ?_
    refine Fw.X_ret ?_
    refine Fw.ret_ [.tmp 4] [_] Try.results22 (.tmp rfl .nil) ?_
    rw [decide_eq_false (show ¬ rs l = rs l2 from fun e => hne (by have := congrArg List.length e; rw [rs_len, rs_len] at this; omega))]
    exact ⟨rfl, HB⟩
  · rintro hne
    refine Fw.nil ?_
    refine hK3 _ _ ?_
    refine Fw.condF rfl ?_
    refine Fw.skip ?_
    refine hK2 _ _ ?_
    refine Fw.seq fun _ hK6 => ?_
    refine Fw.seq fun _ hK7 => ?_
    refine Fw.region ?_
    refine Fw.s (Fw.val_move rfl) rfl ?_
    refine Fw.s (Fw.val_len Try.underlying22 rfl) rfl ?_
    refine Fw.s (Fw.val_move rfl) rfl ?_
    refine Fw.nil ?_
    refine hK7 _ _ (Fw.FC.sub (f' := [(13, _), (12, _), (0, _), (1, _)]) (.cons rfl (.cons rfl (.cons rfl (.cons rfl .nil)))) ?_)
    refine Fw.block ?_
    refine Fw.loop (fun m_ f_ W_ => ∃ (k : Nat), m_ = l.length - k ∧ k ≤ l.length ∧ (rs l).take k = (rs l2).take k ∧ Below (w.heap.size) w W_ ∧ f_ = [(13, .int .i64 k), (12, .int .i64 l.length), (0, .slice A l.length c), (1, .slice A2 l2.length c2)]) ⟨_, _, ⟨0, rfl, Nat.zero_le _, rfl, HB, rfl⟩, (.cons rfl (.cons rfl (.cons rfl (.cons rfl .nil))))⟩ ?_
    clear HB
    rintro m8_ _ w1 ⟨k, hm8_, hkl, hq, HB, rfl⟩
    refine Fw.seq fun _ hK9 => ?_
    refine Fw.region ?_
    refine Fw.s2 (Fw.val_bin rfl rfl Fw.b_lss) rfl ?_ ?_
    · rintro hk
      refine Fw.nil ?_
      refine hK9 _ _ ?_
      refine Fw.seq fun _ hK11 => ?_
      refine Fw.condT rfl ?_
      refine Fw.skip ?_
      refine hK11 _ _ ?_
      refine Fw.seq fun _ hK12 => ?_
      refine Fw.block ?_
      refine Fw.seq fun _ hK13 => ?_
      refine Fw.region ?_
      refine Fw.s (Fw.val_move rfl) rfl ?_
      refine Fw.s (Fw.val_assign rfl) rfl ?_
      refine Fw.nil ?_
      refine hK13 _ _ ?_
      refine Fw.seq fun _ hK14 => ?_
      have hkn : k < l.length := by omega
      have hkn2 : k < l2.length := by omega
      obtain ⟨ad, b_, o_, hA, hadd, HE⟩ := Fw.rdAt Rv.len (by decide) (h.low HB).1 k hkn
      obtain ⟨ad2, b2_, o2_, hA2, hadd2, HE2⟩ := Fw.rdAt Rv.len (by decide) (h2.low HB).1 k hkn2
      refine Fw.regionQ (by kernel_rfl) (by kernel_rfl) ?_
      refine Fw.q (Fw.val_move rfl) rfl ?_
      refine Fw.q (Fw.val_move rfl) rfl ?_
      refine Fw.q (Fw.val_indexR Try.underlying22 sz28 rfl hA rfl rfl hkn hadd) rfl ?_
      refine Fw.q (Fw.val_fieldAddr fl28_0 rfl rfl) rfl ?_
      refine Fw.ldQ sc5 rfl (Fw.rdCell HE 0 rfl) rfl ?_
      refine Fw.q (Fw.val_move rfl) rfl ?_
      refine Fw.q (Fw.val_move rfl) rfl ?_
      refine Fw.q (Fw.val_indexR Try.underlying22 sz28 rfl hA2 rfl rfl hkn2 hadd2) rfl ?_
      refine Fw.q (Fw.val_fieldAddr fl28_0 rfl rfl) rfl ?_
      refine Fw.ldQ sc5 rfl (Fw.rdCell HE2 0 rfl) rfl ?_
      refine Fw.q2 (Fw.val_bin rfl rfl Fw.b_neq) rfl ?_ ?_
      · rintro hk1
        refine Fw.q (Fw.val_move rfl) rfl ?_
        refine Fw.gFQ (d := 27) rfl rfl rfl rfl ?_
        refine Fw.gFQ (d := 27) rfl rfl rfl rfl ?_
        refine Fw.gFQ (d := 27) rfl rfl rfl rfl ?_
        refine Fw.gFQ (d := 27) rfl rfl rfl rfl ?_
        refine Fw.gFQ (d := 27) rfl rfl rfl rfl ?_
        refine Fw.gFQ (d := 27) rfl rfl rfl rfl ?_
        refine Fw.gFQ (d := 27) rfl rfl rfl rfl ?_
        refine Fw.gFQ (d := 27) rfl rfl rfl rfl ?_
        refine Fw.gFQ (d := 27) rfl rfl rfl rfl ?_
        refine Fw.gFQ (d := 27) rfl rfl rfl rfl ?_
        refine Fw.gFQ (d := 27) rfl rfl rfl rfl ?_
        refine Fw.gFQ (d := 27) rfl rfl rfl rfl ?_
        refine Fw.gFQ (d := 27) rfl rfl rfl rfl ?_
        refine Fw.q (Fw.val_pickT rfl rfl) rfl ?_
        refine Fw.nilQ ?_
        intro w2 hb
        replace HE := HE.low hb
        replace HE2 := HE2.low hb
        replace HB := HB.trans (hb.mono HB.size)
        clear hb
        refine hK14 _ _ (Fw.FC.sub (f' := [(41, _), (40, _), (39, _), (38, _), (37, _), (36, _), (35, _), (34, _), (33, _), (32, _), (31, _), (30, _), (29, _), (28, _), (13, _), (12, _), (0, _), (1, _)]) (.cons rfl (.cons rfl (.cons rfl (.cons rfl (.cons rfl (.cons rfl (.cons rfl (.cons rfl (.cons rfl (.cons rfl (.cons rfl (.cons rfl (.cons rfl (.cons rfl (.cons rfl (.cons rfl (.cons rfl (.cons rfl .nil)))))))))))))))))) ?_)
        refine Fw.condT rfl ?_
        refine Fw.seq fun _ hK18 => ?_
        refine Fw.region ?_
        refine Fw.s (Fw.val_assign rfl) rfl ?_
        refine Fw.nil ?_
        refine hK18 _ _ (Fw.FC.sub (f' := [(4, _)]) (.cons rfl .nil) ?_)
        refine Fw.ret ?_
        refine Fw.X_blockR ?_
        refine Fw.X_ret ?_
        refine Fw.X_ret ?_
        refine Fw.X_blockR ?_
        refine Fw.X_ret ?_
        refine Fw.ret_ [.tmp 4] [_] Try.results22 (.tmp rfl .nil) ?_
        rw [decide_eq_false (same_ne hkn hkn2 (fun e => hk1 e.1))]
        exact ⟨rfl, HB⟩
      · rintro hk1
        refine Fw.q (Fw.val_move rfl) rfl ?_
        refine Fw.gTQ (d := 27) rfl rfl ?_
        refine Fw.q (Fw.val_move rfl) rfl ?_
        refine Fw.gTQ (d := 27) rfl rfl ?_
        refine Fw.q (Fw.val_move rfl) rfl ?_
        refine Fw.gTQ (d := 27) rfl rfl ?_
        refine Fw.q (Fw.val_indexR Try.underlying22 sz28 rfl hA rfl rfl hkn hadd) rfl ?_
        refine Fw.gTQ (d := 27) rfl rfl ?_
        refine Fw.q (Fw.val_fieldAddr fl28_1 rfl rfl) rfl ?_
        refine Fw.gTQ (d := 27) rfl rfl ?_
        refine Fw.ldQ sc26 rfl (Fw.rdCell HE 1 rfl) rfl ?_
        refine Fw.gTQ (d := 27) rfl rfl ?_
        refine Fw.q (Fw.val_str (l := l[k].b) Try.underlying26 Try.underlying5 Try.underlying9 rfl (fun w_ hb_ => ((h.low HB).at k hkn).low hb_) rfl) rfl ?_
        refine Fw.gTQ (d := 27) rfl rfl ?_
        refine Fw.q (Fw.val_move rfl) rfl ?_
        refine Fw.gTQ (d := 27) rfl rfl ?_
        refine Fw.q (Fw.val_move rfl) rfl ?_
        refine Fw.gTQ (d := 27) rfl rfl ?_
        refine Fw.q (Fw.val_indexR Try.underlying22 sz28 rfl hA2 rfl rfl hkn2 hadd2) rfl ?_
        refine Fw.gTQ (d := 27) rfl rfl ?_
        refine Fw.q (Fw.val_fieldAddr fl28_1 rfl rfl) rfl ?_
        refine Fw.gTQ (d := 27) rfl rfl ?_
        refine Fw.ldQ sc26 rfl (Fw.rdCell HE2 1 rfl) rfl ?_
        refine Fw.gTQ (d := 27) rfl rfl ?_
        refine Fw.q (Fw.val_str (l := l2[k].b) Try.underlying26 Try.underlying5 Try.underlying9 rfl (fun w_ hb_ => ((h2.low HB).at k hkn2).low hb_) rfl) rfl ?_
        refine Fw.gTQ (d := 27) rfl rfl ?_
        refine Fw.q2 (Fw.val_bin rfl rfl Fw.b_neqS) rfl ?_ ?_
        · rintro hk2
          refine Fw.q (Fw.val_pickF rfl rfl) rfl ?_
          refine Fw.nilQ ?_
          intro w3 hb
          replace HE := HE.low hb
          replace HE2 := HE2.low hb
          replace HB := HB.trans (hb.mono HB.size)
          clear hb
          refine hK14 _ _ (Fw.FC.sub (f' := [(41, _), (40, _), (39, _), (38, _), (37, _), (36, _), (35, _), (34, _), (33, _), (32, _), (31, _), (30, _), (29, _), (28, _), (13, _), (12, _), (0, _), (1, _)]) (.cons rfl (.cons rfl (.cons rfl (.cons rfl (.cons rfl (.cons rfl (.cons rfl (.cons rfl (.cons rfl (.cons rfl (.cons rfl (.cons rfl (.cons rfl (.cons rfl (.cons rfl (.cons rfl (.cons rfl (.cons rfl .nil)))))))))))))))))) ?_)
          refine Fw.condT rfl ?_
          refine Fw.seq fun _ hK22 => ?_
          refine Fw.region ?_
          refine Fw.s (Fw.val_assign rfl) rfl ?_
          refine Fw.nil ?_
          refine hK22 _ _ (Fw.FC.sub (f' := [(4, _)]) (.cons rfl .nil) ?_)
          refine Fw.ret ?_
          refine Fw.X_blockR ?_
          refine Fw.X_ret ?_
          refine Fw.X_ret ?_
          refine Fw.X_blockR ?_
          refine Fw.X_ret ?_
          refine Fw.ret_ [.tmp 4] [_] Try.results22 (.tmp rfl .nil) ?_
          rw [decide_eq_false (same_ne hkn hkn2 (fun e => hk2 (by rw [e.2])))]
          exact ⟨rfl, HB⟩
        · rintro hk2
          refine Fw.q (Fw.val_pickF rfl rfl) rfl ?_
          refine Fw.nilQ ?_
          intro w4 hb
          replace HE := HE.low hb
          replace HE2 := HE2.low hb
          replace HB := HB.trans (hb.mono HB.size)
          clear hb
          refine hK14 _ _ (Fw.FC.sub (f' := [(41, _), (40, _), (39, _), (38, _), (37, _), (36, _), (35, _), (34, _), (33, _), (32, _), (31, _), (30, _), (29, _), (28, _), (13, _), (12, _), (0, _), (1, _)]) (.cons rfl (.cons rfl (.cons rfl (.cons rfl (.cons rfl (.cons rfl (.cons rfl (.cons rfl (.cons rfl (.cons rfl (.cons rfl (.cons rfl (.cons rfl (.cons rfl (.cons rfl (.cons rfl (.cons rfl (.cons rfl .nil)))))))))))))))))) ?_)
          refine Fw.condF rfl ?_
          refine Fw.skip ?_
          refine Fw.X_blockN ?_
          refine hK12 _ _ ?_
          refine Fw.region ?_
          refine Fw.s (Fw.val_bin rfl rfl (Fw.b_add (Fw.i64_ok (by omega)))) rfl ?_
          refine Fw.s (Fw.val_move rfl) rfl ?_
          refine Fw.nil ?_
          refine Fw.roundEnd _ _ (by omega) ⟨k + 1, rfl, hkn, same_step hkn hkn2 hq (Classical.byContradiction hk1) (Jr.bstr_inj (hb _ (List.getElem_mem hkn)) (hb2 _ (List.getElem_mem hkn2)) (Classical.byContradiction hk2)), HB, rfl⟩ (.cons rfl (.cons rfl (.cons rfl (.cons rfl .nil))))
    · rintro hk
      refine Fw.nil ?_
      refine hK9 _ _ ?_
      refine Fw.seq fun _ hK23 => ?_
      refine Fw.condF rfl ?_
      refine Fw.exit ?_
      refine Fw.X_exit ?_
      refine Fw.X_exit ?_
      refine Fw.X_block ?_
      refine hK6 _ _ ?_
      refine Fw.seq fun _ hK24 => ?_
      refine Fw.region ?_
      refine Fw.s (Fw.val_assign rfl) rfl ?_
      refine Fw.nil ?_
      refine hK24 _ _ ?_
      refine Fw.ret ?_
      refine Fw.ret_ [.tmp 4] [_] Try.results22 (.tmp rfl .nil) ?_
      obtain rfl : k = l.length := by omega
      rw [decide_eq_true (show rs l = rs l2 by rw [List.take_of_length_le (by rw [rs_len]; exact Nat.le_refl _), List.take_of_length_le (by rw [rs_len]; omega)] at hq; exact hq)]
      exact ⟨rfl, HB⟩

end Go.Proofs.Ytnljnnnplfjnhaa
