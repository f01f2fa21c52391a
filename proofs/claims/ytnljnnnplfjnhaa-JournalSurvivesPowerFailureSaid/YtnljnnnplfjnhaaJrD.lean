/- Layer 20: lists of records sealed, measured, encoded; bytes verified. -/
import Derived.Test.YtnljnnnplfjnhaaJrM
namespace Go.Proofs.Ytnljnnnplfjnhaa
set_option linter.unusedSimpArgs false
set_option linter.unusedVariables false
open Go.RowKit

namespace Jr
def tot (l : List R) : Nat := (l.map fun r => r.b.length).sum
theorem tot_snoc (l : List R) (r : R) : tot (l ++ [r]) = tot l + r.b.length := by simp [tot]
theorem tot_le {l : List R} {n : Nat} (h : ∀ r ∈ l, r.b.length ≤ n) : tot l ≤ l.length * n := by
  induction l with
  | nil => simp [tot]
  | cons r l ih =>
    have h1 := h r (by simp)
    have h2 := ih (fun x hx => h x (by simp [hx]))
    simp only [tot, List.map_cons, List.sum_cons, List.length_cons, Nat.add_mul] at h2 ⊢
    omega
theorem le_tot {l : List R} {r : R} (h : r ∈ l) : r.b.length ≤ tot l := by
  induction l with
  | nil => cases h
  | cons x l ih =>
    simp only [tot, List.map_cons, List.sum_cons]
    rcases List.mem_cons.1 h with rfl | h
    · omega
    · have := ih h; unfold tot at this; omega
def okL (l : List R) : Prop := ∀ r ∈ l, r.ok ∧ r.b.length ≤ 100000
end Jr
theorem sum0_any (w : World) : Calls Try.prog 32 #[.slice none 0 0] w fun e w' => e = .returned (.int .u64 Jr.s0) ∧ w = w' := by
  have := sum_any none [] 0 w (Rd.nil _ _) (by decide)
  rw [show Ck.moreI Ck.init [] = Jr.s0 from Ck.moreI_nil] at this
  exact this
theorem of0_any (w : World) : Calls Try.prog 35 #[.slice none 0 0] w fun e w' => e = .returned (.int .u64 Jr.s0) ∧ Below w.heap.size w w' := by
  have := of_any none [] 0 w (Rd.nil _ _) (by decide) (fun x hx => by cases hx)
  rw [show Ck.moreI Ck.init [] = Jr.s0 from Ck.moreI_nil] at this
  exact this.mono fun e w' h => ⟨h.1, by obtain ⟨_, n, rfl⟩ := h; exact below_drewN _ _ _⟩

set_option maxRecDepth 100000 in
set_option maxHeartbeats 1000000 in
theorem seal_any (w : World) (A : Option Addr) (l : List Rv) (c : Nat) (h : Recs w A l) (hn : l.length ≤ 1000000) (hok : Jr.okL (rs l)) : Calls Try.prog 16 #[.slice A l.length c] w fun e_ w' => e_ = .returned (.int .u64 (Jr.sealF Jr.s0 (rs l))) ∧ Below w.heap.size w w' := by
  refine Fw.calls Try.func16 rfl Try.ntmps16 rfl ?_
  have HB := Below.refl (w.heap.size) w
  refine Fw.seq fun _ hK1 => ?_
  refine Fw.region ?_
  refine Fw.s (Fw.val_assign rfl) rfl ?_
  refine Fw.nil ?_
  refine hK1 _ _ ?_
  refine Fw.seq fun _ hK2 => ?_
  refine Fw.region ?_
  refine Fw.call cf35 rfl rfl (of0_any _) ?_
  rintro e_ w1 ⟨rfl, hb⟩
  refine ⟨_, rfl, ?_⟩
  replace HB := HB.trans (hb.mono HB.size)
  clear hb
  refine Fw.s (Fw.val_assign rfl) rfl ?_
  refine Fw.nil ?_
  refine hK2 _ _ ?_
  refine Fw.seq fun _ hK3 => ?_
  refine Fw.seq fun _ hK4 => ?_
  refine Fw.region ?_
  refine Fw.s (Fw.val_move rfl) rfl ?_
  refine Fw.s (Fw.val_len Try.underlying22 rfl) rfl ?_
  refine Fw.s (Fw.val_move rfl) rfl ?_
  refine Fw.nil ?_
  refine hK4 _ _ ?_
  refine Fw.block ?_
  refine Fw.loop (fun m_ f_ W_ => ∃ (k : Nat), m_ = l.length - k ∧ k ≤ l.length ∧ Below (w.heap.size) w W_ ∧ f_ = [(9, .int .i64 k), (8, .int .i64 l.length), (7, .slice A l.length c), (3, .int .u64 (Jr.sealF Jr.s0 (rs (l.take k))))]) ⟨_, _, ⟨0, rfl, Nat.zero_le _, HB, rfl⟩, (.cons rfl (.cons rfl (.cons rfl (.cons rfl .nil))))⟩ ?_
  clear HB
  rintro m5_ _ w2 ⟨k, hm5_, hkl, HB, rfl⟩
  refine Fw.seq fun _ hK6 => ?_
  refine Fw.region ?_
  refine Fw.s2 (Fw.val_bin rfl rfl Fw.b_lss) rfl ?_ ?_
  · rintro hk
    refine Fw.nil ?_
    refine hK6 _ _ ?_
    refine Fw.seq fun _ hK8 => ?_
    refine Fw.condT rfl ?_
    refine Fw.skip ?_
    refine hK8 _ _ ?_
    refine Fw.seq fun _ hK9 => ?_
    refine Fw.block ?_
    refine Fw.seq fun _ hK10 => ?_
    have hkn : k < l.length := by omega
    have hvk : l[k].r.ok ∧ l[k].r.b.length ≤ 100000 := hok _ (List.mem_map.2 ⟨_, List.getElem_mem hkn, rfl⟩)
    obtain ⟨ad, b_, o_, hA, hadd, HE⟩ := Fw.rdAt Rv.len (by decide) (h.low HB).1 k hkn
    refine Fw.region ?_
    refine Fw.s (Fw.val_indexR Try.underlying22 sz28 rfl hA rfl rfl hkn hadd) rfl ?_
    refine Fw.ldA ag28 rfl (HE) rfl rfl ?_
    refine Fw.alloc ze28 rfl ?_
    intro w3 gXv egXv HXv hb
    have lgXv : w.heap.size ≤ gXv := by have := HB.size; omega
    clear HE
    replace HB := HB.trans (hb.mono HB.size)
    clear hb
    clear egXv
    refine Fw.storeW sz28 rfl rfl HXv rfl rfl (by exact Fw.oneCells rfl) ?_
    intro w4 N_ hc
    replace HB := HB.trans (hc.below (B := w.heap.size) (fun k e => by omega) HB.size)
    clear hc
    clear HXv
    have HXv := N_
    clear N_
    refine Fw.nil ?_
    refine hK10 _ _ ?_
    refine Fw.region ?_
    refine Fw.s (Fw.val_move rfl) rfl ?_
    refine Fw.s (Fw.val_fieldAddr fl28_0 rfl rfl) rfl ?_
    refine Fw.ld sc5 rfl (HXv.cell 0) rfl ?_
    refine Fw.s (Fw.val_fieldAddr fl28_1 rfl rfl) rfl ?_
    refine Fw.ld sc26 rfl (HXv.cell 1) rfl ?_
    refine Fw.call cf36 rfl rfl (link_any (Jr.sealF Jr.s0 (rs (l.take k))) l[k].k l[k].A l[k].b l[k].c _ ((h.low HB).at k hkn) hvk.2 (Jr.sealF_U64 _ _ Jr.s0_U64) hvk.1.1 hvk.1.2) ?_
    rintro e_ w5 ⟨rfl, hb⟩
    refine ⟨_, rfl, ?_⟩
    replace HXv := HXv.low hb
    replace HB := HB.trans (hb.mono HB.size)
    clear hb
    refine Fw.s (Fw.val_assign rfl) rfl ?_
    refine Fw.nil ?_
    refine Fw.X_blockN ?_
    refine hK9 _ _ (Fw.FC.sub (f' := [(3, _), (9, _), (8, _), (7, _)]) (.cons rfl (.cons rfl (.cons rfl (.cons rfl .nil)))) ?_)
    refine Fw.region ?_
    refine Fw.s (Fw.val_bin rfl rfl (Fw.b_add (Fw.i64_ok (by omega)))) rfl ?_
    refine Fw.s (Fw.val_move rfl) rfl ?_
    refine Fw.nil ?_
    rw [← show (Jr.sealF Jr.s0 (rs (l.take (k + 1)))) = Ck.recI (Jr.sealF Jr.s0 (rs (l.take k))) l[k].k l[k].b by rw [rs_snoc l k hkn, Jr.sealF_snoc]; rfl]
    refine Fw.roundEnd _ _ (by omega) ⟨k + 1, rfl, hkn, HB, rfl⟩ (.cons rfl (.cons rfl (.cons rfl (.cons rfl .nil))))
  · rintro hk
    refine Fw.nil ?_
    refine hK6 _ _ ?_
    refine Fw.seq fun _ hK12 => ?_
    refine Fw.condF rfl ?_
    refine Fw.exit ?_
    refine Fw.X_exit ?_
    refine Fw.X_exit ?_
    refine Fw.X_block ?_
    refine hK3 _ _ ?_
    refine Fw.seq fun _ hK13 => ?_
    refine Fw.region ?_
    refine Fw.s (Fw.val_move rfl) rfl ?_
    refine Fw.s (Fw.val_assign rfl) rfl ?_
    refine Fw.nil ?_
    refine hK13 _ _ ?_
    refine Fw.ret ?_
    refine Fw.ret_ [.tmp 2] [_] Try.results16 (.tmp rfl .nil) ?_
    obtain rfl : k = l.length := by omega
    rw [List.take_length]
    exact ⟨rfl, HB⟩

set_option maxRecDepth 100000 in
set_option maxHeartbeats 1000000 in
theorem jsmall_any (w : World) (A : Option Addr) (l : List Rv) (c : Nat) (h : Recs w A l) (hlm : l.length ≤ maxLen) (n : Nat) (hn : n ≤ 100) (hbig : ∀ v ∈ l, v.b.length ≤ 140737488355328) : Calls Try.prog 11 #[.slice A l.length c, .int .i64 n] w fun e_ w' => e_ = .returned (.bool (decide (l.length ≤ n ∧ Jr.tot (rs l) ≤ 4000))) ∧ Below w.heap.size w w' := by
  unfold maxLen at hlm
  have hbt : ∀ k, l.length ≤ 100 → Jr.tot (rs (l.take k)) ≤ 100 * 140737488355328 := fun k hl => by
    refine Nat.le_trans (Jr.tot_le (n := 140737488355328) fun r hr => ?_) (Nat.mul_le_mul_right _ (by rw [rs_len, List.length_take]; omega))
    obtain ⟨v, hv, rfl⟩ := List.mem_map.1 hr
    exact hbig v (List.mem_of_mem_take hv)
  refine Fw.calls Try.func11 rfl Try.ntmps11 rfl ?_
  have HB := Below.refl (w.heap.size) w
  refine Fw.seq fun _ hK1 => ?_
  refine Fw.region ?_
  refine Fw.s (Fw.val_assign rfl) rfl ?_
  refine Fw.nil ?_
  refine hK1 _ _ ?_
  refine Fw.seq fun _ hK2 => ?_
  refine Fw.region ?_
  refine Fw.s (Fw.val_assign rfl) rfl ?_
  refine Fw.nil ?_
  refine hK2 _ _ ?_
  refine Fw.seq fun _ hK3 => ?_
  refine Fw.seq fun _ hK4 => ?_
  refine Fw.region ?_
  refine Fw.s (Fw.val_move rfl) rfl ?_
  refine Fw.s (Fw.val_len Try.underlying22 rfl) rfl ?_
  refine Fw.s (Fw.val_move rfl) rfl ?_
  refine Fw.nil ?_
  refine hK4 _ _ ?_
  refine Fw.block ?_
  refine Fw.loop (fun m_ f_ W_ => ∃ (k : Nat) (q_ : Int), m_ = l.length - k ∧ k ≤ l.length ∧ (l.length ≤ 100 → q_ = (Jr.tot (rs (l.take k)) : Nat)) ∧ Below (w.heap.size) w W_ ∧ f_ = [(10, .int .i64 k), (9, .int .i64 l.length), (8, .slice A l.length c), (5, .int .i64 q_), (0, .slice A l.length c), (1, .int .i64 n)]) ⟨_, _, ⟨0, 0, rfl, Nat.zero_le _, fun _ => rfl, HB, rfl⟩, (.cons rfl (.cons rfl (.cons rfl (.cons rfl (.cons rfl (.cons rfl .nil))))))⟩ ?_
  clear HB
  rintro m5_ _ w1 ⟨k, q_, hm5_, hkl, hm, HB, rfl⟩
  refine Fw.seq fun _ hK6 => ?_
  refine Fw.region ?_
  refine Fw.s2 (Fw.val_bin rfl rfl Fw.b_lss) rfl ?_ ?_
  · rintro hk
    refine Fw.nil ?_
    refine hK6 _ _ ?_
    refine Fw.seq fun _ hK8 => ?_
    refine Fw.condT rfl ?_
    refine Fw.skip ?_
    refine hK8 _ _ ?_
    refine Fw.seq fun _ hK9 => ?_
    refine Fw.block ?_
    refine Fw.seq fun _ hK10 => ?_
    have hkn : k < l.length := by omega
    obtain ⟨ad, b_, o_, hA, hadd, HE⟩ := Fw.rdAt Rv.len (by decide) (h.low HB).1 k hkn
    refine Fw.region ?_
    refine Fw.s (Fw.val_indexR Try.underlying22 sz28 rfl hA rfl rfl hkn hadd) rfl ?_
    refine Fw.ldA ag28 rfl (HE) rfl rfl ?_
    refine Fw.alloc ze28 rfl ?_
    intro w2 gXv egXv HXv hb
    have lgXv : w.heap.size ≤ gXv := by have := HB.size; omega
    clear HE
    replace HB := HB.trans (hb.mono HB.size)
    clear hb
    clear egXv
    refine Fw.storeW sz28 rfl rfl HXv rfl rfl (by exact Fw.oneCells rfl) ?_
    intro w3 N_ hc
    replace HB := HB.trans (hc.below (B := w.heap.size) (fun k e => by omega) HB.size)
    clear hc
    clear HXv
    have HXv := N_
    clear N_
    refine Fw.nil ?_
    refine hK10 _ _ ?_
    refine Fw.region ?_
    refine Fw.s (Fw.val_move rfl) rfl ?_
    refine Fw.s (Fw.val_fieldAddr fl28_1 rfl rfl) rfl ?_
    refine Fw.ld sc26 rfl (HXv.cell 1) rfl ?_
    refine Fw.s (Fw.val_len Try.underlying26 rfl) rfl ?_
    refine Fw.s (Fw.val_bin rfl rfl (Fw.b_add rfl)) rfl ?_
    refine Fw.s (Fw.val_assign rfl) rfl ?_
    refine Fw.nil ?_
    refine Fw.X_blockN ?_
    refine hK9 _ _ (Fw.FC.sub (f' := [(5, _), (10, _), (9, _), (8, _), (0, _), (1, _)]) (.cons rfl (.cons rfl (.cons rfl (.cons rfl (.cons rfl (.cons rfl .nil)))))) ?_)
    refine Fw.region ?_
    refine Fw.s (Fw.val_bin rfl rfl (Fw.b_add (Fw.i64_ok (by omega)))) rfl ?_
    refine Fw.s (Fw.val_move rfl) rfl ?_
    refine Fw.nil ?_
    refine Fw.roundEnd _ _ (by omega) ⟨k + 1, IntKind.i64.wrap (q_ + (l[k].b.length : Nat)), rfl, hkn, fun hl => by rw [hm hl, rs_snoc l k hkn, Jr.tot_snoc]; have := hbt k hl; have := hbig _ (List.getElem_mem hkn); rw [IntWalk.i64_in _ (by omega)]; exact (Int.natCast_add _ _).symm, HB, rfl⟩ (.cons rfl (.cons rfl (.cons rfl (.cons rfl (.cons rfl (.cons rfl .nil))))))
  · rintro hk
    refine Fw.nil ?_
    refine hK6 _ _ ?_
    refine Fw.seq fun _ hK12 => ?_
    refine Fw.condF rfl ?_
    refine Fw.exit ?_
    refine Fw.X_exit ?_
    refine Fw.X_exit ?_
    refine Fw.X_block ?_
    refine hK3 _ _ ?_
    refine Fw.seq fun _ hK13 => ?_
    obtain rfl : k = l.length := by omega
    rw [List.take_length] at hm
    refine Fw.region ?_
    refine Fw.s (Fw.val_move rfl) rfl ?_
    refine Fw.s (Fw.val_len Try.underlying22 rfl) rfl ?_
    refine Fw.s (Fw.val_move rfl) rfl ?_
    refine Fw.s2 (Fw.val_bin rfl rfl Fw.b_leq) rfl ?_ ?_
    · rintro h1
      refine Fw.s (Fw.val_move rfl) rfl ?_
      refine Fw.gT (d := 24) rfl rfl ?_
      refine Fw.s (Fw.val_move rfl) rfl ?_
      refine Fw.gT (d := 24) rfl rfl ?_
      refine Fw.s2 (Fw.val_bin rfl rfl Fw.b_leq) rfl ?_ ?_
      · rintro h2
        refine Fw.s (Fw.val_pickT rfl rfl) rfl ?_
        refine Fw.s (Fw.val_assign rfl) rfl ?_
        refine Fw.nil ?_
        refine hK13 _ _ (Fw.FC.sub (f' := [(4, _)]) (.cons rfl .nil) ?_)
        refine Fw.ret ?_
        refine Fw.ret_ [.tmp 4] [_] Try.results11 (.tmp rfl .nil) ?_
        have := hm (by omega)
        rw [decide_eq_true (show l.length ≤ n ∧ Jr.tot (rs l) ≤ 4000 from ⟨by omega, by omega⟩)]
        exact ⟨rfl, HB⟩
      · rintro h2
        refine Fw.s (Fw.val_pickT rfl rfl) rfl ?_
        refine Fw.s (Fw.val_assign rfl) rfl ?_
        refine Fw.nil ?_
        refine hK13 _ _ (Fw.FC.sub (f' := [(4, _)]) (.cons rfl .nil) ?_)
        refine Fw.ret ?_
        refine Fw.ret_ [.tmp 4] [_] Try.results11 (.tmp rfl .nil) ?_
        have := hm (by omega)
        rw [decide_eq_false (show ¬ (l.length ≤ n ∧ Jr.tot (rs l) ≤ 4000) from fun h_ => by omega)]
        exact ⟨rfl, HB⟩
    · rintro h1
      refine Fw.s (Fw.val_move rfl) rfl ?_
      refine Fw.gF (d := 24) rfl rfl rfl rfl ?_
      refine Fw.gF (d := 24) rfl rfl rfl rfl ?_
      refine Fw.s (Fw.val_pickF rfl rfl) rfl ?_
      refine Fw.s (Fw.val_assign rfl) rfl ?_
      refine Fw.nil ?_
      refine hK13 _ _ (Fw.FC.sub (f' := [(4, _)]) (.cons rfl .nil) ?_)
      refine Fw.ret ?_
      refine Fw.ret_ [.tmp 4] [_] Try.results11 (.tmp rfl .nil) ?_
      rw [decide_eq_false (show ¬ (l.length ≤ n ∧ Jr.tot (rs l) ≤ 4000) from fun h_ => by omega)]
      exact ⟨rfl, HB⟩

set_option maxRecDepth 100000 in
set_option maxHeartbeats 1000000 in
theorem jown_any (w : World) (k : Int) (A : Option Addr) (n c : Nat) : Calls Try.prog 12 #[.agg #[.int .u8 k, .slice A n c]] w fun e_ w' => e_ = .returned (.agg #[.int .u8 k, .slice A n c]) ∧ Below w.heap.size w w' := by
  refine Fw.calls Try.func12 rfl Try.ntmps12 rfl ?_
  have HB := Below.refl (w.heap.size) w
  refine Fw.seq fun _ hK1 => ?_
  refine Fw.region ?_
  refine Fw.box rfl rfl ?_
  intro w1 gXv egXv HXv hb
  have lgXv : w.heap.size ≤ gXv := by have := HB.size; omega
  replace HB := HB.trans (hb.mono HB.size)
  clear hb
  clear egXv
  refine Fw.alloc ze29 rfl ?_
  intro w2 gXr egXr HXr hb
  have n_gXv_gXr : gXv < gXr := by have := HXv.lt; omega
  have lgXr : w.heap.size ≤ gXr := by have := HB.size; omega
  replace HXv := HXv.low hb
  replace HB := HB.trans (hb.mono HB.size)
  clear hb
  clear egXr
  refine Fw.nil ?_
  refine hK1 _ _ ?_
  refine Fw.seq fun _ hK2 => ?_
  refine Fw.region ?_
  refine Fw.s (Fw.val_fieldAddr fl28_0 rfl rfl) rfl ?_
  refine Fw.ld sc5 rfl (HXv.cell 0) rfl ?_
  refine Fw.s (Fw.val_fieldAddr fl28_1 rfl rfl) rfl ?_
  refine Fw.ld sc26 rfl (HXv.cell 1) rfl ?_
  refine Fw.s (Fw.val_build (ps := [(0, _), (1, _)]) rfl (bu29_0_1 _ _ _ _)) rfl ?_
  refine Fw.storeW sz29 rfl rfl HXr rfl rfl (by exact Fw.oneCells rfl) ?_
  intro w3 N_ hc
  replace HXv := HXv.chg hc (by omega)
  replace HB := HB.trans (hc.below (B := w.heap.size) (fun k e => by omega) HB.size)
  clear hc
  clear HXr
  have HXr := N_
  clear N_
  refine Fw.nil ?_
  refine hK2 _ _ (Fw.FC.sub (f' := [(2, _)]) (.cons rfl .nil) ?_)
  refine Fw.ret ?_
  refine Fw.ret_ [.cell 2 29] [_] Try.results12 (Fw.ResL.cellM rfl ag29 (Fw.rdBlk HXr) rfl .nil) ?_
  exact ⟨rfl, HB⟩

theorem jenc_len : ∀ {l : List Jr.R} {s : Int}, (∀ r ∈ l, r.b.length ≤ 8192) → (Jr.encs s l).length ≤ l.length * 8220
  | [], s, h => by simp [Jr.encs]
  | r :: l, s, h => by
    have h1 := h r (by simp)
    have h2 := jenc_len (s := Jr.next s r) (l := l) (fun x hx => h x (by simp [hx]))
    simp only [Jr.encs, List.length_append, List.length_cons, Nat.add_mul, Nat.one_mul]
    have h3 : (Wr.enc (r.b.length : Nat)).length ≤ 10 := Wr.enc_len (by unfold Wr.I64; omega)
    unfold Jr.one
    simp only [List.length_append, List.length_cons, Ck.bytesI_length]
    omega

theorem jsm {l : List Rv} {k : Nat} (hk : k < l.length) (h : ∀ v ∈ l.take k, v.b.length ≤ 8192) (h2 : l[k].b.length ≤ 8192) : ∀ v ∈ l.take (k + 1), v.b.length ≤ 8192 := fun v hv => by
  rw [List.take_succ_eq_append_getElem hk] at hv
  rcases List.mem_append.1 hv with h1 | h1
  · exact h v h1
  · simp at h1; subst h1; exact h2
set_option maxRecDepth 100000 in
set_option maxHeartbeats 1000000 in
theorem encode_any (w : World) (A : Option Addr) (l : List Rv) (c : Nat) (h : Recs w A l) (hn : l.length ≤ 1000) : Calls Try.prog 13 #[.slice A l.length c] w fun e_ w' => ∃ A' c', ((∀ v ∈ l, v.b.length ≤ 8192) → e_ = .returned (.tuple #[.slice A' (Jr.encs Jr.s0 (rs l)).length c', .int .i64 0]) ∧ w'.ownsRow w.heap.size 5 1 (.slice A' (Jr.encs Jr.s0 (rs l)).length c') (Jr.encs Jr.s0 (rs l)).length ((Jr.encs Jr.s0 (rs l)).map (.int .u8))) ∧ (¬ (∀ v ∈ l, v.b.length ≤ 8192) → e_ = .returned (.tuple #[.slice none 0 0, .int .i64 1])) ∧ Below w.heap.size w w' := by
  refine Fw.calls Try.func13 rfl Try.ntmps13 rfl ?_
  have HB := Below.refl (w.heap.size) w
  refine Fw.seq fun _ hK1 => ?_
  refine Fw.region ?_
  refine Fw.s (Fw.val_assign rfl) rfl ?_
  refine Fw.s (Fw.val_assign rfl) rfl ?_
  refine Fw.nil ?_
  refine hK1 _ _ ?_
  refine Fw.seq fun _ hK2 => ?_
  refine Fw.region ?_
  refine Fw.s (Fw.val_assign rfl) rfl ?_
  refine Fw.nil ?_
  refine hK2 _ _ ?_
  refine Fw.seq fun _ hK3 => ?_
  refine Fw.region ?_
  refine Fw.call cf32 rfl rfl (sum0_any _) ?_
  rintro e_ _ ⟨rfl, rfl⟩
  refine ⟨_, rfl, ?_⟩
  refine Fw.s (Fw.val_assign rfl) rfl ?_
  refine Fw.nil ?_
  refine hK3 _ _ ?_
  refine Fw.seq fun _ hK4 => ?_
  refine Fw.seq fun _ hK5 => ?_
  refine Fw.region ?_
  refine Fw.s (Fw.val_move rfl) rfl ?_
  refine Fw.s (Fw.val_len Try.underlying25 rfl) rfl ?_
  refine Fw.s (Fw.val_move rfl) rfl ?_
  refine Fw.nil ?_
  refine hK5 _ _ ?_
  refine Fw.block ?_
  have HO : w.ownsRow w.heap.size 5 1 (.slice none (Jr.encs Jr.s0 (rs (l.take 0))).length 0) (Jr.encs Jr.s0 (rs (l.take 0))).length ((Jr.encs Jr.s0 (rs (l.take 0))).map (.int .u8)) := World.ownsRow_nil _ _ _ _
  refine Fw.loop (fun m_ f_ W_ => ∃ (k : Nat) (A_ : Option Addr) (c_ : Nat), m_ = l.length - k ∧ k ≤ l.length ∧ (∀ v ∈ l.take k, v.b.length ≤ 8192) ∧ W_.ownsRow w.heap.size 5 1 (.slice A_ (Jr.encs Jr.s0 (rs (l.take k))).length c_) (Jr.encs Jr.s0 (rs (l.take k))).length ((Jr.encs Jr.s0 (rs (l.take k))).map (.int .u8)) ∧ Below (w.heap.size) w W_ ∧ f_ = [(11, .int .i64 k), (10, .int .i64 l.length), (9, .slice A l.length c), (5, .int .u64 (Jr.sealF Jr.s0 (rs (l.take k)))), (4, .slice A_ (Jr.encs Jr.s0 (rs (l.take k))).length c_)]) ⟨_, _, ⟨0, none, 0, rfl, Nat.zero_le _, fun v hv => (by cases hv), HO, HB, rfl⟩, (.cons rfl (.cons rfl (.cons rfl (.cons rfl (.cons rfl .nil)))))⟩ ?_
  clear HO HB
  rintro m6_ _ w1 ⟨k, A_, c_, hm6_, hkl, hsm, HO, HB, rfl⟩
  refine Fw.seq fun _ hK7 => ?_
  refine Fw.region ?_
  refine Fw.s2 (Fw.val_bin rfl rfl Fw.b_lss) rfl ?_ ?_
  · rintro hk
    refine Fw.nil ?_
    refine hK7 _ _ ?_
    refine Fw.seq fun _ hK9 => ?_
    refine Fw.condT rfl ?_
    refine Fw.skip ?_
    refine hK9 _ _ ?_
    refine Fw.seq fun _ hK10 => ?_
    refine Fw.block ?_
    refine Fw.seq fun _ hK11 => ?_
    have hkn : k < l.length := by omega
    have hel : (Jr.encs Jr.s0 (rs (l.take k))).length ≤ 8220000 := Nat.le_trans (jenc_len fun r hr => by obtain ⟨v, hv, rfl⟩ := List.mem_map.1 hr; exact hsm v hv) (by rw [rs_len, List.length_take]; omega)
    obtain ⟨ad, b_, o_, hA, hadd, HE⟩ := Fw.rdAt Rv.len (by decide) (h.low HB).1 k hkn
    refine Fw.region ?_
    refine Fw.s (Fw.val_indexR Try.underlying25 sz29 rfl hA rfl rfl hkn hadd) rfl ?_
    refine Fw.ldA ag29 rfl (HE) rfl rfl ?_
    refine Fw.alloc ze29 rfl ?_
    intro w2 gXv egXv HXv hb
    have lgXv : w.heap.size ≤ gXv := by have := HB.size; omega
    clear HE
    replace HO := own_below HO hb (Nat.le_refl _)
    replace HB := HB.trans (hb.mono HB.size)
    clear hb
    clear egXv
    refine Fw.storeW sz29 rfl rfl HXv rfl rfl (by exact Fw.oneCells rfl) ?_
    intro w3 N_ hc
    replace HO := own_to HO hc (fun g_ h_ e_ => own_ne HO HXv (by decide) (by rw [h_, e_]))
    replace HB := HB.trans (hc.below (B := w.heap.size) (fun k e => by omega) HB.size)
    clear hc
    clear HXv
    have HXv := N_
    clear N_
    refine Fw.nil ?_
    refine hK11 _ _ ?_
    refine Fw.seq fun _ hK13 => ?_
    refine Fw.seq fun _ hK14 => ?_
    refine Fw.region ?_
    refine Fw.s (Fw.val_fieldAddr fl29_1 rfl rfl) rfl ?_
    refine Fw.ld sc26 rfl (HXv.cell 1) rfl ?_
    refine Fw.s (Fw.val_len Try.underlying26 rfl) rfl ?_
    refine Fw.s2 (Fw.val_bin rfl rfl Fw.b_gtr) rfl ?_ ?_
    · rintro h8
      refine Fw.nil ?_
      refine hK14 _ _ ?_
      refine Fw.condT rfl ?_
      refine Fw.seq fun _ hK16 => ?_
      refine Fw.region ?_
      refine Fw.s (Fw.val_assign rfl) rfl ?_
      refine Fw.s (Fw.val_assign rfl) rfl ?_
      refine Fw.nil ?_
      refine hK16 _ _ (Fw.FC.sub (f' := [(3, _), (2, _)]) (.cons rfl (.cons rfl .nil)) ?_)
      refine Fw.ret ?_
      refine Fw.X_ret ?_
      refine Fw.X_blockR ?_
      refine Fw.X_ret ?_
      refine Fw.X_ret ?_
      refine Fw.X_blockR ?_
      refine Fw.X_ret ?_
      refine Fw.ret_ [.tmp 2, .tmp 3] [_, _] Try.results13 (.tmp rfl (.tmp rfl .nil)) ?_
      exact ⟨none, 0, fun h_ => absurd (h_ _ (List.getElem_mem hkn)) (by omega), fun _ => rfl, HB⟩
    · rintro h8
      refine Fw.nil ?_
      refine hK14 _ _ ?_
      refine Fw.condF rfl ?_
      refine Fw.skip ?_
      refine hK13 _ _ (Fw.FC.sub (f' := [(7, _), (11, _), (10, _), (9, _), (5, _), (4, _)]) (.cons rfl (.cons rfl (.cons rfl (.cons rfl (.cons rfl (.cons rfl .nil)))))) ?_)
      refine Fw.region ?_
      refine Fw.s (Fw.val_move rfl) rfl ?_
      refine Fw.s (Fw.val_move rfl) rfl ?_
      refine Fw.ldA ag29 rfl (Fw.rdBlk HXv) rfl rfl ?_
      refine Fw.call cf33 rfl rfl (appendRecord_any _ w.heap.size HB.size A_ (Jr.encs Jr.s0 (rs (l.take k))) c_ (Jr.sealF Jr.s0 (rs (l.take k))) l[k].k l[k].A l[k].b l[k].c HO ((RdB.of (h.at k hkn)).next HB) (by omega) (by omega)) ?_
      rintro e_ w4 ⟨A9, c9, rfl, HO2, hbB⟩
      refine ⟨_, rfl, ?_⟩
      replace HB := HB.trans hbB
      clear hbB HO
      have HO := HO2
      clear HO2
      refine Fw.s (Fw.val_move rfl) rfl ?_
      refine Fw.s (Fw.val_extract rfl rfl) rfl ?_
      refine Fw.s (Fw.val_extract rfl rfl) rfl ?_
      refine Fw.s (Fw.val_assign rfl) rfl ?_
      refine Fw.s (Fw.val_assign rfl) rfl ?_
      refine Fw.nil ?_
      refine Fw.X_blockN ?_
      refine hK10 _ _ (Fw.FC.sub (f' := [(5, _), (4, _), (11, _), (10, _), (9, _)]) (.cons rfl (.cons rfl (.cons rfl (.cons rfl (.cons rfl .nil))))) ?_)
      refine Fw.region ?_
      refine Fw.s (Fw.val_bin rfl rfl (Fw.b_add (Fw.i64_ok (by omega)))) rfl ?_
      refine Fw.s (Fw.val_move rfl) rfl ?_
      refine Fw.nil ?_
      rw [show (Jr.encs Jr.s0 (rs (l.take k))) ++ Jr.one (Jr.sealF Jr.s0 (rs (l.take k))) ⟨l[k].k, l[k].b⟩ = (Jr.encs Jr.s0 (rs (l.take (k + 1)))) by rw [rs_snoc l k hkn, Jr.encs_snoc]; rfl] at HO ⊢
      rw [show Jr.next (Jr.sealF Jr.s0 (rs (l.take k))) ⟨l[k].k, l[k].b⟩ = (Jr.sealF Jr.s0 (rs (l.take (k + 1)))) by rw [rs_snoc l k hkn, Jr.sealF_snoc]; rfl]
      refine Fw.roundEnd _ _ (by omega) ⟨k + 1, A9, c9, rfl, hkn, jsm hkn hsm (by omega), HO, HB, rfl⟩ (.cons rfl (.cons rfl (.cons rfl (.cons rfl (.cons rfl .nil)))))
  · rintro hk
    refine Fw.nil ?_
    refine hK7 _ _ ?_
    refine Fw.seq fun _ hK17 => ?_
    refine Fw.condF rfl ?_
    refine Fw.exit ?_
    refine Fw.X_exit ?_
    refine Fw.X_exit ?_
    refine Fw.X_block ?_
    refine hK4 _ _ ?_
    refine Fw.seq fun _ hK18 => ?_
    refine Fw.region ?_
    refine Fw.s (Fw.val_move rfl) rfl ?_
    refine Fw.s (Fw.val_assign rfl) rfl ?_
    refine Fw.s (Fw.val_assign rfl) rfl ?_
    refine Fw.nil ?_
    refine hK18 _ _ (Fw.FC.sub (f' := [(3, _), (2, _)]) (.cons rfl (.cons rfl .nil)) ?_)
    refine Fw.ret ?_
    refine Fw.ret_ [.tmp 2, .tmp 3] [_, _] Try.results13 (.tmp rfl (.tmp rfl .nil)) ?_
    obtain rfl : k = l.length := by omega
    rw [List.take_length] at HO hsm ⊢
    exact ⟨_, _, fun _ => ⟨rfl, HO⟩, fun h_ => absurd hsm h_, HB⟩

set_option maxRecDepth 100000 in
set_option maxHeartbeats 1000000 in
theorem jverify_any (w : World) (A : Option Addr) (b : List Int) (c : Nat) (s : Int) (h : Rd w A (b.map (.int .u8))) (hb : Ck.Bts b) (hl : b.length ≤ 1000000) (hc : b.length ≤ c) : Calls Try.prog 15 #[.slice A b.length c, .int .u64 s] w fun e_ w' => ∃ (L : List Jr.R) (n : Nat), Jr.Val Jr.s0 b L n ∧ e_ = .returned (.tuple #[.int .i64 L.length, .int .i64 n, .int .i64 (if n < b.length then 2 else if Jr.sealF Jr.s0 L ≠ s then 15 else 0)]) ∧ Below w.heap.size w w' := by
  refine Fw.calls Try.func15 rfl Try.ntmps15 rfl ?_
  have HB := Below.refl (w.heap.size) w
  refine Fw.seq fun _ hK1 => ?_
  refine Fw.region ?_
  refine Fw.s (Fw.val_assign rfl) rfl ?_
  refine Fw.s (Fw.val_assign rfl) rfl ?_
  refine Fw.s (Fw.val_assign rfl) rfl ?_
  refine Fw.nil ?_
  refine hK1 _ _ ?_
  refine Fw.seq fun _ hK2 => ?_
  refine Fw.region ?_
  refine Fw.s (Fw.val_assign rfl) rfl ?_
  refine Fw.s (Fw.val_assign rfl) rfl ?_
  refine Fw.nil ?_
  refine hK2 _ _ ?_
  refine Fw.seq fun _ hK3 => ?_
  refine Fw.region ?_
  refine Fw.call cf32 rfl rfl (sum0_any _) ?_
  rintro e_ _ ⟨rfl, rfl⟩
  refine ⟨_, rfl, ?_⟩
  refine Fw.s (Fw.val_assign rfl) rfl ?_
  refine Fw.nil ?_
  refine hK3 _ _ ?_
  refine Fw.seq fun _ hK4 => ?_
  refine Fw.block ?_
  refine Fw.loop (fun m_ f_ W_ => ∃ (n : Nat) (L : List Jr.R), m_ = b.length - n ∧ n ≤ b.length ∧ L.length ≤ n ∧ b.take n = Jr.encs Jr.s0 L ∧ (∀ r ∈ L, r.ok ∧ r.b.length ≤ 8192) ∧ Below (w.heap.size) w W_ ∧ f_ = [(9, .int .u64 (Jr.sealF Jr.s0 L)), (8, .int .i64 n), (7, .int .i64 L.length), (0, .slice A b.length c), (1, .int .u64 s)]) ⟨_, _, ⟨0, [], rfl, Nat.zero_le _, Nat.le_refl _, rfl, fun r hr => (by cases hr), HB, rfl⟩, (.cons rfl (.cons rfl (.cons rfl (.cons rfl (.cons rfl .nil)))))⟩ ?_
  clear HB
  rintro m5_ _ w1 ⟨n, L, hm5_, hn, hLn, hp, hok, HB, rfl⟩
  refine Fw.block ?_
  refine Fw.seq fun _ hK6 => ?_
  have hdr : Rd w1 (cutA A c n 1) ((b.drop n).map (.int .u8)) := by have := (h.low HB).cut (size := 1) c n (by rw [List.length_map]; omega); rw [Nat.mul_one, ← List.map_drop] at this; exact this
  refine Fw.region ?_
  refine Fw.s (Fw.val_move rfl) rfl ?_
  refine Fw.s (Fw.val_move rfl) rfl ?_
  refine Fw.s (Fw.val_sliceFrom (m := n) Try.underlying26 sz5 rfl rfl rfl hn) rfl ?_
  refine Fw.s (Fw.val_move rfl) rfl ?_
  refine Fw.call cf34 rfl rfl (by have := readRecord_any w1 (cutA A c n 1) (b.drop n) (c - n) (Jr.sealF Jr.s0 L) hdr (fun x hx => hb x (List.mem_of_mem_drop hx)) (by rw [List.length_drop]; omega) (by rw [List.length_drop]; omega); rw [List.length_drop] at this; exact this) ?_
  rintro e_ w2 ⟨A3, c3, rfl, hr3, hl3, -, hb_⟩
  refine ⟨_, rfl, ?_⟩
  have hb3_ := hb_
  replace HB := HB.trans (hb_.mono HB.size)
  clear hb_
  refine Fw.s (Fw.val_move rfl) rfl ?_
  refine Fw.s (Fw.val_extract rfl rfl) rfl ?_
  refine Fw.s (Fw.val_extract rfl rfl) rfl ?_
  refine Fw.s (Fw.val_extract rfl rfl) rfl ?_
  refine Fw.s (Fw.val_extract rfl rfl) rfl ?_
  refine Fw.b2 ?_ ?_
  · rintro hs
    refine Fw.alloc ze29 rfl ?_
    intro w3 gXv egXv HXv hb
    have lgXv : w.heap.size ≤ gXv := by have := HB.size; omega
    replace HB := HB.trans (hb.mono HB.size)
    clear hb
    clear egXv
    refine Fw.storeW sz29 rfl rfl HXv rfl rfl (by exact Fw.oneCells rfl) ?_
    intro w4 N_ hc
    replace HB := HB.trans (hc.below (B := w.heap.size) (fun k e => by omega) HB.size)
    clear hc
    clear HXv
    have HXv := N_
    clear N_
    refine Fw.s (Fw.val_assign rfl) rfl ?_
    refine Fw.s (Fw.val_assign rfl) rfl ?_
    refine Fw.s (Fw.val_assign rfl) rfl ?_
    refine Fw.nil ?_
    refine hK6 _ _ (Fw.FC.sub (f' := [(13, _), (12, _), (11, _), (9, _), (8, _), (7, _), (0, _), (1, _)]) (.cons rfl (.cons rfl (.cons rfl (.cons rfl (.cons rfl (.cons rfl (.cons rfl (.cons rfl .nil)))))))) ?_)
    refine Fw.seq fun _ hK7 => ?_
    refine Fw.seq fun _ hK8 => ?_
    obtain ⟨⟨r, m⟩, hf⟩ := Option.isSome_iff_exists.1 hs
    obtain ⟨z1, z2, z3, -⟩ := Jr.f_some hf
    obtain ⟨v1, v2, v4, v5, v6, -⟩ := Jr.val_step hb hn hp hf
    have v3 : ∀ x ∈ L ++ [r], x.ok ∧ x.b.length ≤ 8192 := fun x hx => by
      rcases List.mem_append.1 hx with h1 | h1
      · exact hok x h1
      · simp at h1; subst h1; exact ⟨v4, v5⟩
    rw [z2, z3, ← Jr.sealF_snoc]
    have hLl : (L ++ [r]).length = L.length + 1 := by simp
    refine Fw.region ?_
    refine Fw.s (Fw.val_move rfl) rfl ?_
    refine Fw.s (Fw.val_not rfl) rfl ?_
    refine Fw.nil ?_
    refine hK8 _ _ ?_
    refine Fw.condF rfl ?_
    refine Fw.skip ?_
    refine hK7 _ _ ?_
    refine Fw.seq fun _ hK9 => ?_
    refine Fw.region ?_
    refine Fw.s (Fw.val_move rfl) rfl ?_
    refine Fw.s (Fw.val_bin rfl rfl (Fw.b_add (Fw.i64_ok (by omega)))) rfl ?_
    refine Fw.s (Fw.val_assign rfl) rfl ?_
    refine Fw.nil ?_
    refine hK9 _ _ (Fw.FC.sub (f' := [(7, _), (12, _), (11, _), (8, _), (0, _), (1, _)]) (.cons rfl (.cons rfl (.cons rfl (.cons rfl (.cons rfl (.cons rfl .nil)))))) ?_)
    refine Fw.seq fun _ hK10 => ?_
    refine Fw.region ?_
    refine Fw.s (Fw.val_move rfl) rfl ?_
    refine Fw.s (Fw.val_move rfl) rfl ?_
    refine Fw.s (Fw.val_bin rfl rfl (Fw.b_add (Fw.i64_ok (by omega)))) rfl ?_
    refine Fw.s (Fw.val_assign rfl) rfl ?_
    refine Fw.nil ?_
    refine hK10 _ _ ?_
    refine Fw.region ?_
    refine Fw.s (Fw.val_move rfl) rfl ?_
    refine Fw.s (Fw.val_assign rfl) rfl ?_
    refine Fw.nil ?_
    refine Fw.X_blockN ?_
    rw [show (L.length : Int) + 1 = ((L ++ [r]).length : Nat) by rw [hLl]; rfl]
    refine Fw.roundEnd _ _ (by omega) ⟨n + m, L ++ [r], rfl, v1, by omega, v2, v3, HB, rfl⟩ (.cons rfl (.cons rfl (.cons rfl (.cons rfl (.cons rfl .nil)))))
  · rintro hs
    refine Fw.alloc ze29 rfl ?_
    intro w5 gXv egXv HXv hb
    have lgXv : w.heap.size ≤ gXv := by have := HB.size; omega
    replace HB := HB.trans (hb.mono HB.size)
    clear hb
    clear egXv
    refine Fw.storeW sz29 rfl rfl HXv rfl rfl (by exact Fw.oneCells rfl) ?_
    intro w6 N_ hc
    replace HB := HB.trans (hc.below (B := w.heap.size) (fun k e => by omega) HB.size)
    clear hc
    clear HXv
    have HXv := N_
    clear N_
    refine Fw.s (Fw.val_assign rfl) rfl ?_
    refine Fw.s (Fw.val_assign rfl) rfl ?_
    refine Fw.s (Fw.val_assign rfl) rfl ?_
    refine Fw.nil ?_
    refine hK6 _ _ (Fw.FC.sub (f' := [(13, _), (12, _), (11, _), (9, _), (8, _), (7, _), (0, _), (1, _)]) (.cons rfl (.cons rfl (.cons rfl (.cons rfl (.cons rfl (.cons rfl (.cons rfl (.cons rfl .nil)))))))) ?_)
    refine Fw.seq fun _ hK11 => ?_
    refine Fw.seq fun _ hK12 => ?_
    have hf : Jr.first (Jr.sealF Jr.s0 L) (b.drop n) = none := by
      cases h_ : Jr.first (Jr.sealF Jr.s0 L) (b.drop n) with
      | none => rfl
      | some x => rw [h_] at hs; cases hs
    have hV : Jr.Val Jr.s0 b L n := ⟨hn, hp, hok, hf⟩
    refine Fw.region ?_
    refine Fw.s (Fw.val_move rfl) rfl ?_
    refine Fw.s (Fw.val_not rfl) rfl ?_
    refine Fw.nil ?_
    refine hK12 _ _ ?_
    refine Fw.condT rfl ?_
    refine Fw.exit ?_
    refine Fw.X_exit ?_
    refine Fw.X_blockO rfl ?_
    refine Fw.X_exit ?_
    refine Fw.X_block ?_
    refine hK4 _ _ ?_
    refine Fw.seq fun _ hK13 => ?_
    refine Fw.seq fun _ hK14 => ?_
    refine Fw.region ?_
    refine Fw.s (Fw.val_move rfl) rfl ?_
    refine Fw.s (Fw.val_move rfl) rfl ?_
    refine Fw.s (Fw.val_len Try.underlying26 rfl) rfl ?_
    refine Fw.s2 (Fw.val_bin rfl rfl Fw.b_lss) rfl ?_ ?_
    · rintro hlt
      refine Fw.nil ?_
      refine hK14 _ _ (Fw.FC.sub (f' := [(36, _), (9, _), (8, _), (7, _), (1, _)]) (.cons rfl (.cons rfl (.cons rfl (.cons rfl (.cons rfl .nil))))) ?_)
      refine Fw.condT rfl ?_
      refine Fw.seq fun _ hK16 => ?_
      refine Fw.region ?_
      refine Fw.s (Fw.val_move rfl) rfl ?_
      refine Fw.s (Fw.val_move rfl) rfl ?_
      refine Fw.s (Fw.val_assign rfl) rfl ?_
      refine Fw.s (Fw.val_assign rfl) rfl ?_
      refine Fw.s (Fw.val_assign rfl) rfl ?_
      refine Fw.nil ?_
      refine hK16 _ _ (Fw.FC.sub (f' := [(6, _), (5, _), (4, _)]) (.cons rfl (.cons rfl (.cons rfl .nil))) ?_)
      refine Fw.ret ?_
      refine Fw.X_ret ?_
      refine Fw.ret_ [.tmp 4, .tmp 5, .tmp 6] [_, _, _] Try.results15 (.tmp rfl (.tmp rfl (.tmp rfl .nil))) ?_
      refine ⟨L, n, hV, ?_, HB⟩
      rw [if_pos (by omega)]
      rfl
    · rintro hlt
      refine Fw.nil ?_
      refine hK14 _ _ (Fw.FC.sub (f' := [(36, _), (9, _), (8, _), (7, _), (1, _)]) (.cons rfl (.cons rfl (.cons rfl (.cons rfl (.cons rfl .nil))))) ?_)
      refine Fw.condF rfl ?_
      refine Fw.skip ?_
      refine hK13 _ _ ?_
      refine Fw.seq fun _ hK17 => ?_
      refine Fw.seq fun _ hK18 => ?_
      refine Fw.region ?_
      refine Fw.s (Fw.val_move rfl) rfl ?_
      refine Fw.s (Fw.val_move rfl) rfl ?_
      refine Fw.s2 (Fw.val_bin rfl rfl Fw.b_neq) rfl ?_ ?_
      · rintro hs2
        refine Fw.nil ?_
        refine hK18 _ _ ?_
        refine Fw.condT rfl ?_
        refine Fw.seq fun _ hK20 => ?_
        refine Fw.region ?_
        refine Fw.s (Fw.val_move rfl) rfl ?_
        refine Fw.s (Fw.val_move rfl) rfl ?_
        refine Fw.s (Fw.val_assign rfl) rfl ?_
        refine Fw.s (Fw.val_assign rfl) rfl ?_
        refine Fw.s (Fw.val_assign rfl) rfl ?_
        refine Fw.nil ?_
        refine hK20 _ _ (Fw.FC.sub (f' := [(6, _), (5, _), (4, _)]) (.cons rfl (.cons rfl (.cons rfl .nil))) ?_)
        refine Fw.ret ?_
        refine Fw.X_ret ?_
        refine Fw.ret_ [.tmp 4, .tmp 5, .tmp 6] [_, _, _] Try.results15 (.tmp rfl (.tmp rfl (.tmp rfl .nil))) ?_
        refine ⟨L, n, hV, ?_, HB⟩
        rw [if_neg (by omega), if_pos hs2]
        rfl
      · rintro hs2
        refine Fw.nil ?_
        refine hK18 _ _ ?_
        refine Fw.condF rfl ?_
        refine Fw.skip ?_
        refine hK17 _ _ ?_
        refine Fw.seq fun _ hK21 => ?_
        refine Fw.region ?_
        refine Fw.s (Fw.val_move rfl) rfl ?_
        refine Fw.s (Fw.val_move rfl) rfl ?_
        refine Fw.s (Fw.val_assign rfl) rfl ?_
        refine Fw.s (Fw.val_assign rfl) rfl ?_
        refine Fw.s (Fw.val_assign rfl) rfl ?_
        refine Fw.nil ?_
        refine hK21 _ _ (Fw.FC.sub (f' := [(6, _), (5, _), (4, _)]) (.cons rfl (.cons rfl (.cons rfl .nil))) ?_)
        refine Fw.ret ?_
        refine Fw.ret_ [.tmp 4, .tmp 5, .tmp 6] [_, _, _] Try.results15 (.tmp rfl (.tmp rfl (.tmp rfl .nil))) ?_
        refine ⟨L, n, hV, ?_, HB⟩
        rw [if_neg (by omega), if_neg hs2]
        rfl

end Go.Proofs.Ytnljnnnplfjnhaa
