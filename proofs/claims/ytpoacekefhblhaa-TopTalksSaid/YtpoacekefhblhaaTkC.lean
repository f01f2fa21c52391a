/- TopTalks: Check, UrgencyRange. -/
import Derived.Test.YtpoacekefhblhaaTkB
namespace Go.Proofs.Ytpoacekefhblhaa
set_option linter.unusedSimpArgs false
set_option linter.unusedVariables false
open Go.RowKit

set_option maxRecDepth 100000 in
set_option maxHeartbeats 1000000 in
theorem check_any (w : World) (nm : ByteArray) (ver : Int) (Tq : Option Addr) (qs : List Tk.Qu) (cq : Nat) (hq : Tk.QsAt w Tq qs) (hql : qs.length ≤ 64) (ha : ∀ q ∈ qs, q.an.length ≤ 16) : Calls Try.prog 6 #[.agg #[.string nm, .int .i64 ver, .slice Tq qs.length cq]] w fun e_ w' => ∃ i c, e_ = .returned (.tuple #[.int .i64 i, .int .i64 c]) ∧ (c = 0 ↔ Tk.Good nm ver qs) ∧ Below w.heap.size w w' := by
  refine Fw.calls Try.func6 rfl Try.ntmps6 rfl ?_
  have HB := Below.refl (w.heap.size) w
  refine Fw.seq fun _ hK1 => ?_
  refine Fw.region ?_
  refine Fw.box rfl rfl ?_
  intro w1 gt egt Ht hb
  have lgt : w.heap.size ≤ gt := by have := HB.size; omega
  replace HB := HB.trans (hb.mono HB.size)
  clear hb
  clear egt
  refine Fw.s (Fw.val_assign rfl) rfl ?_
  refine Fw.s (Fw.val_assign rfl) rfl ?_
  refine Fw.nil ?_
  refine hK1 _ _ ?_
  refine Fw.seq fun _ hK2 => ?_
  refine Fw.seq fun _ hK3 => ?_
  refine Fw.region ?_
  refine Fw.ldA ag24 rfl (Fw.rdBlk Ht) rfl rfl ?_
  refine Fw.call cf20 rfl rfl (isValid_any _ nm ver Tq qs cq (by omega) (hq.low HB)) ?_
  rintro e_ w2 ⟨bv, rfl, hv, hb⟩
  refine ⟨_, rfl, ?_⟩
  replace Ht := Ht.low hb
  replace HB := HB.trans (hb.mono HB.size)
  clear hb
  refine Fw.b2 ?_ ?_
  · rintro rfl
    refine Fw.s (Fw.val_not rfl) rfl ?_
    refine Fw.nil ?_
    refine hK3 _ _ ?_
    refine Fw.condF rfl ?_
    refine Fw.skip ?_
    refine hK2 _ _ (Fw.FC.sub (f' := [(1, _)]) (.cons rfl .nil) ?_)
    refine Fw.seq fun _ hK4 => ?_
    refine Fw.region ?_
    refine Fw.ldA ag24 rfl (Fw.rdBlk Ht) rfl rfl ?_
    refine Fw.call cf21 rfl rfl (followers_any _ nm ver Tq qs cq (hq.low HB) hql ha) ?_
    rintro e_ w3 ⟨Tf, cf, fs, rfl, HFs, hfol, hf16, hb⟩
    refine ⟨_, rfl, ?_⟩
    replace Ht := Ht.low hb
    replace HB := HB.trans (hb.mono HB.size)
    clear hb
    have hfl := hfol.1
    have hsm : Tk.Sm fs := ⟨by omega, hf16⟩
    have hnb := (hv.1 rfl).nb hfol
    refine Fw.s (Fw.val_assign rfl) rfl ?_
    refine Fw.nil ?_
    refine hK4 _ _ ?_
    refine Fw.seq fun _ hK5 => ?_
    refine Fw.seq fun _ hK6 => ?_
    refine Fw.region ?_
    refine Fw.s (Fw.val_move rfl) rfl ?_
    refine Fw.s (Fw.val_len Try.underlying56 rfl) rfl ?_
    refine Fw.s (Fw.val_move rfl) rfl ?_
    refine Fw.nil ?_
    refine hK6 _ _ ?_
    refine Fw.block ?_
    refine Fw.loop (fun m_ f_ W_ => ∃ (k : Nat), m_ = fs.length - k ∧ k ≤ fs.length ∧ (∀ q, q < k → ¬ Tk.Cyc (Tk.Ef fs) q) ∧ Tk.FsAt W_ Tf fs ∧ Below (w.heap.size) w W_ ∧ f_ = [(15, .int .i64 k), (14, .int .i64 fs.length), (4, .slice Tf fs.length cf)]) ⟨_, _, ⟨0, rfl, Nat.zero_le _, (fun q h => absurd h (Nat.not_lt_zero _)), HFs, HB, rfl⟩, (.cons rfl (.cons rfl (.cons rfl .nil)))⟩ ?_
    clear HFs HB
    rintro m7_ _ w4 ⟨k, hm7_, hk, hac, HFs, HB, rfl⟩
    refine Fw.seq fun _ hK8 => ?_
    refine Fw.region ?_
    refine Fw.s2 (Fw.val_bin rfl rfl Fw.b_lss) rfl ?_ ?_
    · rintro hlt
      refine Fw.nil ?_
      refine hK8 _ _ ?_
      refine Fw.seq fun _ hK10 => ?_
      refine Fw.condT rfl ?_
      refine Fw.skip ?_
      refine hK10 _ _ ?_
      refine Fw.seq fun _ hK11 => ?_
      refine Fw.block ?_
      refine Fw.seq fun _ hK12 => ?_
      have hk2 : k < fs.length := by omega
      refine Fw.region ?_
      refine Fw.s (Fw.val_move rfl) rfl ?_
      refine Fw.s (Fw.val_assign rfl) rfl ?_
      refine Fw.nil ?_
      refine hK12 _ _ ?_
      refine Fw.seq fun _ hK13 => ?_
      refine Fw.region ?_
      refine Fw.s (Fw.val_move rfl) rfl ?_
      refine Fw.s (Fw.val_move rfl) rfl ?_
      refine Fw.call cf22 rfl rfl (isCyclic_any _ Tf fs cf HFs hsm hnb k (by omega)) ?_
      rintro e_ w5 ⟨bc, rfl, hcy, hb⟩
      refine ⟨_, rfl, ?_⟩
      replace HFs := HFs.low hb
      replace HB := HB.trans (hb.mono HB.size)
      clear hb
      refine Fw.b2 ?_ ?_
      · rintro rfl
        refine Fw.nil ?_
        refine hK13 _ _ ?_
        refine Fw.condT rfl ?_
        refine Fw.seq fun _ hK14 => ?_
        refine Fw.region ?_
        refine Fw.s (Fw.val_move rfl) rfl ?_
        refine Fw.s (Fw.val_assign rfl) rfl ?_
        refine Fw.s (Fw.val_assign rfl) rfl ?_
        refine Fw.nil ?_
        refine hK14 _ _ (Fw.FC.sub (f' := [(3, _), (2, _)]) (.cons rfl (.cons rfl .nil)) ?_)
        refine Fw.ret ?_
        refine Fw.X_blockR ?_
        refine Fw.X_ret ?_
        refine Fw.X_ret ?_
        refine Fw.X_blockR ?_
        refine Fw.X_ret ?_
        refine Fw.ret_ [.tmp 2, .tmp 3] [_, _] Try.results6 (.tmp rfl (.tmp rfl .nil)) ?_
        exact ⟨_, _, rfl, ⟨fun h => absurd h (by decide), fun h => (h.2.1 k (by omega) (by rw [← hfol.eq]; exact hcy.1 rfl)).elim⟩, HB⟩
      · rintro rfl
        refine Fw.nil ?_
        refine hK13 _ _ ?_
        refine Fw.condF rfl ?_
        refine Fw.skip ?_
        refine Fw.X_blockN ?_
        refine hK11 _ _ (Fw.FC.sub (f' := [(15, _), (14, _), (4, _)]) (.cons rfl (.cons rfl (.cons rfl .nil))) ?_)
        refine Fw.region ?_
        refine Fw.s (Fw.val_bin rfl rfl (Fw.b_add (Fw.i64_ok (by omega)))) rfl ?_
        refine Fw.s (Fw.val_move rfl) rfl ?_
        refine Fw.nil ?_
        refine Fw.roundEnd _ _ (by omega) ⟨k + 1, rfl, by omega, (fun q h => by rcases Nat.lt_succ_iff_lt_or_eq.1 h with h | h; exact hac q h; subst h; intro hc; have := hcy.2 hc; simp at this), HFs, HB, rfl⟩ (.cons rfl (.cons rfl (.cons rfl .nil)))
    · rintro hlt
      refine Fw.nil ?_
      refine hK8 _ _ ?_
      refine Fw.seq fun _ hK15 => ?_
      refine Fw.condF rfl ?_
      refine Fw.exit ?_
      refine Fw.X_exit ?_
      refine Fw.X_exit ?_
      refine Fw.X_block ?_
      refine hK5 _ _ ?_
      refine Fw.seq fun _ hK16 => ?_
      refine Fw.seq fun _ hK17 => ?_
      have hke : k = fs.length := by omega
      have hqs1 := (hv.1 rfl).2.2.2.1
      have hac2 : ∀ q, q < qs.length → ¬ Tk.Cyc (Tk.Eq qs) q := by rw [← hfol.eq, ← hfl, ← hke]; exact hac
      refine Fw.region ?_
      refine Fw.s (Fw.val_move rfl) rfl ?_
      refine Fw.buildSlice [_] sl42 rfl rfl (by exact Fw.allSz rfl) (by decide) rfl ?_
      intro w6 gS24 egS24 HS24 hb
      have lgS24 : w.heap.size ≤ gS24 := by have := HB.size; omega
      replace HFs := HFs.low hb
      replace HB := HB.trans (hb.mono HB.size)
      clear hb
      clear egS24
      refine Fw.call cf23 rfl rfl ((show Calls _ _ #[.slice Tf fs.length cf, .slice (some ⟨gS24, 0, none⟩) 1 1] _ _ from reachable_any _ Tf fs cf HFs hsm hnb (some ⟨gS24, 0, none⟩) [0] 1 (Fw.rdBlk HS24) (fun s hs => by rw [List.mem_singleton.1 hs]; omega) (by simp))) ?_
      rintro e_ w7 ⟨gR, cR, rs, rfl, hrl, hre, HR, hb⟩
      refine ⟨_, rfl, ?_⟩
      replace HR := own_base HR HB.size
      replace HFs := HFs.low hb
      replace HS24 := HS24.low hb
      replace HB := HB.trans (hb.mono HB.size)
      clear hb
      clear HS24
      refine Fw.s (Fw.val_len Try.underlying26 rfl) rfl ?_
      refine Fw.s (Fw.val_move rfl) rfl ?_
      refine Fw.nil ?_
      refine hK17 _ _ ?_
      refine Fw.block ?_
      refine Fw.loop (fun m_ f_ W_ => ∃ (k : Nat), m_ = fs.length - k ∧ k ≤ fs.length ∧ (∀ q, q < k → rs[q]? = some true) ∧ World.ownsRow W_ w.heap.size 4 1 (.slice (some ⟨gR, 0, none⟩) fs.length cR) fs.length (rs.map .bool) ∧ Below (w.heap.size) w W_ ∧ f_ = [(27, .int .i64 k), (26, .int .i64 fs.length), (25, .slice (some ⟨gR, 0, none⟩) fs.length cR)]) ⟨_, _, ⟨0, rfl, Nat.zero_le _, (fun q h => absurd h (Nat.not_lt_zero _)), HR, HB, rfl⟩, (.cons rfl (.cons rfl (.cons rfl .nil)))⟩ ?_
      clear HR HB
      rintro m18_ _ w8 ⟨k, hm18_, hk, hall, HR, HB, rfl⟩
      refine Fw.seq fun _ hK19 => ?_
      refine Fw.region ?_
      refine Fw.s2 (Fw.val_bin rfl rfl Fw.b_lss) rfl ?_ ?_
      · rintro hlt
        refine Fw.nil ?_
        refine hK19 _ _ ?_
        refine Fw.seq fun _ hK21 => ?_
        refine Fw.condT rfl ?_
        refine Fw.skip ?_
        refine hK21 _ _ ?_
        refine Fw.seq fun _ hK22 => ?_
        refine Fw.block ?_
        refine Fw.seq fun _ hK23 => ?_
        have hk2 : k < fs.length := by omega
        have hk3 : k < rs.length := by omega
        refine Fw.region ?_
        refine Fw.s (Fw.val_move rfl) rfl ?_
        obtain ⟨ad24, b24_, o24_, hA24, hadd24, HRe⟩ := Fw.rdAtM (Rd.of_own HR) k hk3
        refine Fw.s (Fw.val_indexR Try.underlying26 sz4 rfl hA24 rfl rfl hk2 hadd24) rfl ?_
        refine Fw.ld sc4 rfl (HRe) rfl ?_
        refine Fw.b2 ?_ ?_
        · rintro hrt
          refine Fw.s (Fw.val_assign rfl) rfl ?_
          refine Fw.s (Fw.val_assign rfl) rfl ?_
          refine Fw.nil ?_
          refine hK23 _ _ ?_
          refine Fw.seq fun _ hK26 => ?_
          refine Fw.region ?_
          refine Fw.s (Fw.val_move rfl) rfl ?_
          refine Fw.s (Fw.val_not rfl) rfl ?_
          refine Fw.nil ?_
          refine hK26 _ _ (Fw.FC.sub (f' := [(33, _), (6, _), (27, _), (26, _), (25, _)]) (.cons rfl (.cons rfl (.cons rfl (.cons rfl (.cons rfl .nil))))) ?_)
          refine Fw.condF rfl ?_
          refine Fw.skip ?_
          refine Fw.X_blockN ?_
          refine hK22 _ _ ?_
          refine Fw.region ?_
          refine Fw.s (Fw.val_bin rfl rfl (Fw.b_add (Fw.i64_ok (by omega)))) rfl ?_
          refine Fw.s (Fw.val_move rfl) rfl ?_
          refine Fw.nil ?_
          refine Fw.roundEnd _ _ (by omega) ⟨k + 1, rfl, by omega, (fun q h => by rcases Nat.lt_succ_iff_lt_or_eq.1 h with h | h; exact hall q h; subst h; rw [List.getElem?_eq_getElem hk3, hrt]), HR, HB, rfl⟩ (.cons rfl (.cons rfl (.cons rfl .nil)))
        · rintro hrt
          refine Fw.s (Fw.val_assign rfl) rfl ?_
          refine Fw.s (Fw.val_assign rfl) rfl ?_
          refine Fw.nil ?_
          refine hK23 _ _ ?_
          refine Fw.seq fun _ hK27 => ?_
          refine Fw.region ?_
          refine Fw.s (Fw.val_move rfl) rfl ?_
          refine Fw.s (Fw.val_not rfl) rfl ?_
          refine Fw.nil ?_
          refine hK27 _ _ (Fw.FC.sub (f' := [(33, _), (6, _), (27, _), (26, _), (25, _)]) (.cons rfl (.cons rfl (.cons rfl (.cons rfl (.cons rfl .nil))))) ?_)
          refine Fw.condT rfl ?_
          refine Fw.seq fun _ hK28 => ?_
          refine Fw.region ?_
          refine Fw.s (Fw.val_move rfl) rfl ?_
          refine Fw.s (Fw.val_assign rfl) rfl ?_
          refine Fw.s (Fw.val_assign rfl) rfl ?_
          refine Fw.nil ?_
          refine hK28 _ _ ?_
          refine Fw.ret ?_
          refine Fw.X_blockR ?_
          refine Fw.X_ret ?_
          refine Fw.X_ret ?_
          refine Fw.X_blockR ?_
          refine Fw.X_ret ?_
          refine Fw.ret_ [.tmp 2, .tmp 3] [_, _] Try.results6 (.tmp rfl (.tmp rfl .nil)) ?_
          exact ⟨_, _, rfl, ⟨fun h => absurd h (by decide), fun h => by have h1 := (hre k).2 ⟨0, List.mem_singleton.2 rfl, by rw [hfol.eq]; exact h.2.2 k (by omega)⟩; rw [List.getElem?_eq_getElem hk3, hrt] at h1; simp at h1⟩, HB⟩
      · rintro hlt
        refine Fw.nil ?_
        refine hK19 _ _ ?_
        refine Fw.seq fun _ hK29 => ?_
        refine Fw.condF rfl ?_
        refine Fw.exit ?_
        refine Fw.X_exit ?_
        refine Fw.X_exit ?_
        refine Fw.X_block ?_
        refine hK16 _ _ ?_
        refine Fw.seq fun _ hK30 => ?_
        refine Fw.region ?_
        refine Fw.s (Fw.val_assign rfl) rfl ?_
        refine Fw.s (Fw.val_assign rfl) rfl ?_
        refine Fw.nil ?_
        refine hK30 _ _ ?_
        refine Fw.ret ?_
        refine Fw.ret_ [.tmp 2, .tmp 3] [_, _] Try.results6 (.tmp rfl (.tmp rfl .nil)) ?_
        exact ⟨_, _, rfl, ⟨fun _ => ⟨hv.1 rfl, hac2, fun q hq => by obtain ⟨s, h1, h2⟩ := (hre q).1 (hall q (by omega)); rw [List.mem_singleton.1 h1, hfol.eq] at h2; exact h2⟩, fun _ => rfl⟩, HB⟩
  · rintro rfl
    refine Fw.s (Fw.val_not rfl) rfl ?_
    refine Fw.nil ?_
    refine hK3 _ _ ?_
    refine Fw.condT rfl ?_
    refine Fw.seq fun _ hK31 => ?_
    refine Fw.region ?_
    refine Fw.s (Fw.val_assign rfl) rfl ?_
    refine Fw.s (Fw.val_assign rfl) rfl ?_
    refine Fw.nil ?_
    refine hK31 _ _ (Fw.FC.sub (f' := [(3, _), (2, _)]) (.cons rfl (.cons rfl .nil)) ?_)
    refine Fw.ret ?_
    refine Fw.X_ret ?_
    refine Fw.ret_ [.tmp 2, .tmp 3] [_, _] Try.results6 (.tmp rfl (.tmp rfl .nil)) ?_
    exact ⟨_, _, rfl, ⟨fun h => absurd h (by decide), fun h => by have := hv.2 h.1; simp at this⟩, HB⟩

set_option maxRecDepth 100000 in
set_option maxHeartbeats 1000000 in
theorem urgency_any (w : World) (nm : ByteArray) (ver : Int) (Tq : Option Addr) (qs : List Tk.Qu) (cq : Nat) (hq : Tk.QsAt w Tq qs) (hql : qs.length ≤ 64) (ha : ∀ q ∈ qs, q.an.length ≤ 16) (hgv : Tk.VP nm ver qs) (q : Nat) (hqq : q < qs.length) : Calls Try.prog 27 #[.agg #[.string nm, .int .i64 ver, .slice Tq qs.length cq], .int .i64 (q : Int)] w fun e_ w' => ∃ lo hi, e_ = .returned (.tuple #[.int .i64 lo, .int .i64 hi]) ∧ Tk.UR qs q lo hi ∧ Below w.heap.size w w' := by
  refine Fw.calls Try.func27 rfl Try.ntmps27 rfl ?_
  have HB := Below.refl (w.heap.size) w
  refine Fw.seq fun _ hK1 => ?_
  refine Fw.region ?_
  refine Fw.box rfl rfl ?_
  intro w1 gt egt Ht hb
  have lgt : w.heap.size ≤ gt := by have := HB.size; omega
  replace HB := HB.trans (hb.mono HB.size)
  clear hb
  clear egt
  refine Fw.s (Fw.val_assign rfl) rfl ?_
  refine Fw.s (Fw.val_assign rfl) rfl ?_
  refine Fw.nil ?_
  refine hK1 _ _ ?_
  refine Fw.seq fun _ hK2 => ?_
  refine Fw.seq fun _ hK3 => ?_
  refine Fw.region ?_
  refine Fw.ldA ag24 rfl (Fw.rdBlk Ht) rfl rfl ?_
  refine Fw.call cf20 rfl rfl (isValid_any _ nm ver Tq qs cq (by omega) (hq.low HB)) ?_
  rintro e_ w2 ⟨bv, rfl, hv, hb⟩
  refine ⟨_, rfl, ?_⟩
  replace Ht := Ht.low hb
  replace HB := HB.trans (hb.mono HB.size)
  clear hb
  refine Fw.bT (by exact hv.2 hgv) ?_
  refine Fw.s (Fw.val_not rfl) rfl ?_
  refine Fw.s (Fw.val_move rfl) rfl ?_
  refine Fw.gT (d := 15) rfl rfl ?_
  refine Fw.ldA ag24 rfl (Fw.rdBlk Ht) rfl rfl ?_
  refine Fw.gT (d := 15) rfl rfl ?_
  refine Fw.s (Fw.val_move rfl) rfl ?_
  refine Fw.gT (d := 15) rfl rfl ?_
  refine Fw.call cf25 rfl rfl (isQuestion_any _ nm ver Tq qs cq (q : Int)) ?_
  rintro e_ w3 ⟨bq, rfl, hqi, hb⟩
  refine ⟨_, rfl, ?_⟩
  replace Ht := Ht.low hb
  replace HB := HB.trans (hb.mono HB.size)
  clear hb
  refine Fw.bT (by exact hqi.2 (by omega)) ?_
  refine Fw.gT (d := 15) rfl rfl ?_
  refine Fw.s (Fw.val_not rfl) rfl ?_
  refine Fw.s (Fw.val_pickF rfl rfl) rfl ?_
  refine Fw.nil ?_
  refine hK3 _ _ (Fw.FC.sub (f' := [(20, _), (2, _), (1, _)]) (.cons rfl (.cons rfl (.cons rfl .nil))) ?_)
  refine Fw.condF rfl ?_
  refine Fw.skip ?_
  refine hK2 _ _ ?_
  refine Fw.seq fun _ hK4 => ?_
  refine Fw.region ?_
  refine Fw.s (Fw.val_assign rfl) rfl ?_
  refine Fw.s (Fw.val_assign rfl) rfl ?_
  refine Fw.nil ?_
  refine hK4 _ _ ?_
  refine Fw.seq fun _ hK5 => ?_
  refine Fw.seq fun _ hK6 => ?_
  refine Fw.region ?_
  refine Fw.ldA ag24 rfl (Fw.rdBlk Ht) rfl rfl ?_
  refine Fw.call cf21 rfl rfl (followers_any _ nm ver Tq qs cq (hq.low HB) hql ha) ?_
  rintro e_ w4 ⟨Tf, cf, fs, rfl, HFs, hfol, hf16, hb⟩
  refine ⟨_, rfl, ?_⟩
  replace Ht := Ht.low hb
  replace HB := HB.trans (hb.mono HB.size)
  clear hb
  have hfl := hfol.1
  have hsm : Tk.Sm fs := ⟨by omega, hf16⟩
  have hnb := hgv.nb hfol
  refine Fw.s (Fw.val_move rfl) rfl ?_
  refine Fw.buildSlice [_] sl42 rfl rfl (by exact Fw.allSz rfl) (by decide) rfl ?_
  intro w5 gS24 egS24 HS24 hb
  have n_gt_gS24 : gt < gS24 := by have := Ht.lt; omega
  have lgS24 : w.heap.size ≤ gS24 := by have := HB.size; omega
  replace Ht := Ht.low hb
  replace HFs := HFs.low hb
  replace HB := HB.trans (hb.mono HB.size)
  clear hb
  clear egS24
  refine Fw.call cf23 rfl rfl ((show Calls _ _ #[.slice Tf fs.length cf, .slice (some ⟨gS24, 0, none⟩) 1 1] _ _ from reachable_any _ Tf fs cf HFs hsm hnb (some ⟨gS24, 0, none⟩) [q] 1 (Fw.rdBlk HS24) (fun s hs => by rw [List.mem_singleton.1 hs]; omega) (by simp))) ?_
  rintro e_ w6 ⟨gR, cR, rs, rfl, hrl, hre, HR, hb⟩
  refine ⟨_, rfl, ?_⟩
  replace HR := own_base HR HB.size
  replace Ht := Ht.low hb
  replace HFs := HFs.low hb
  replace HS24 := HS24.low hb
  replace HB := HB.trans (hb.mono HB.size)
  clear hb
  clear HS24
  refine Fw.s (Fw.val_len Try.underlying26 rfl) rfl ?_
  refine Fw.s (Fw.val_move rfl) rfl ?_
  refine Fw.nil ?_
  refine hK6 _ _ ?_
  refine Fw.block ?_
  refine Fw.loop (fun m_ f_ W_ => ∃ (k : Nat) (lo : Int) (hi : Int), m_ = fs.length - k ∧ k ≤ fs.length ∧ Tk.Mm (Tk.outs qs rs k) lo hi ∧ Blk W_ gt 24 #[.string nm, .int .i64 ver, .slice Tq qs.length cq] ∧ World.ownsRow W_ w.heap.size 4 1 (.slice (some ⟨gR, 0, none⟩) fs.length cR) fs.length (rs.map .bool) ∧ Below (w.heap.size) w W_ ∧ f_ = [(27, .int .i64 k), (26, .int .i64 fs.length), (25, .slice (some ⟨gR, 0, none⟩) fs.length cR), (7, .int .i64 hi), (6, .int .i64 lo), (2, .pointer (some ⟨gt, 0, none⟩))]) ⟨_, _, ⟨0, 0, 0, rfl, Nat.zero_le _, Tk.Mm.start, Ht, HR, HB, rfl⟩, (.cons rfl (.cons rfl (.cons rfl (.cons rfl (.cons rfl (.cons rfl .nil))))))⟩ ?_
  clear Ht HR HB
  rintro m7_ _ w7 ⟨k, lo, hi, hm7_, hk, hmm, Ht, HR, HB, rfl⟩
  refine Fw.seq fun _ hK8 => ?_
  refine Fw.region ?_
  refine Fw.s2 (Fw.val_bin rfl rfl Fw.b_lss) rfl ?_ ?_
  · rintro hlt
    refine Fw.nil ?_
    refine hK8 _ _ ?_
    refine Fw.seq fun _ hK10 => ?_
    refine Fw.condT rfl ?_
    refine Fw.skip ?_
    refine hK10 _ _ ?_
    refine Fw.seq fun _ hK11 => ?_
    refine Fw.block ?_
    refine Fw.seq fun _ hK12 => ?_
    have hk2 : k < fs.length := by omega
    have hk3 : k < rs.length := by omega
    have hk4 : k < qs.length := by omega
    refine Fw.region ?_
    refine Fw.s (Fw.val_move rfl) rfl ?_
    obtain ⟨ad13, b13_, o13_, hA13, hadd13, HRe⟩ := Fw.rdAtM (Rd.of_own HR) k hk3
    refine Fw.s (Fw.val_indexR Try.underlying26 sz4 rfl hA13 rfl rfl hk2 hadd13) rfl ?_
    refine Fw.ld sc4 rfl (HRe) rfl ?_
    refine Fw.b2 ?_ ?_
    · rintro hrt
      refine Fw.s (Fw.val_assign rfl) rfl ?_
      refine Fw.s (Fw.val_assign rfl) rfl ?_
      refine Fw.nil ?_
      refine hK12 _ _ ?_
      refine Fw.seq fun _ hK15 => ?_
      refine Fw.seq fun _ hK16 => ?_
      refine Fw.region ?_
      refine Fw.s (Fw.val_move rfl) rfl ?_
      refine Fw.s (Fw.val_not rfl) rfl ?_
      refine Fw.nil ?_
      refine hK16 _ _ (Fw.FC.sub (f' := [(33, _), (8, _), (27, _), (26, _), (25, _), (7, _), (6, _), (2, _)]) (.cons rfl (.cons rfl (.cons rfl (.cons rfl (.cons rfl (.cons rfl (.cons rfl (.cons rfl .nil)))))))) ?_)
      refine Fw.condF rfl ?_
      refine Fw.skip ?_
      refine hK15 _ _ ?_
      refine Fw.seq fun _ hK17 => ?_
      obtain ⟨adq, bq_, oq_, hAq, haddq, HQe⟩ := Fw.rdAt Tk.Qu.len (by decide) hq.1 k hk4
      have hqa := hq.2 _ (List.getElem_mem hk4)
      have hqn := ha _ (List.getElem_mem hk4)
      refine Fw.region ?_
      refine Fw.s (Fw.val_fieldAddr fl24_2 rfl rfl) rfl ?_
      refine Fw.ld sc22 rfl (Ht.cell 2) rfl ?_
      refine Fw.s (Fw.val_move rfl) rfl ?_
      refine Fw.s (Fw.val_indexR Try.underlying22 sz30 rfl hAq rfl rfl hk4 haddq) rfl ?_
      refine Fw.s (Fw.val_fieldAddr fl30_1 rfl rfl) rfl ?_
      refine Fw.ld sc28 rfl (Fw.rdCell (HQe.low HB) 1 rfl) rfl ?_
      refine Fw.s (Fw.val_len Try.underlying28 rfl) rfl ?_
      refine Fw.s (Fw.val_move rfl) rfl ?_
      refine Fw.nil ?_
      refine hK17 _ _ (Fw.FC.sub (f' := [(41, _), (40, _), (39, _), (27, _), (26, _), (25, _), (7, _), (6, _), (2, _)]) (.cons rfl (.cons rfl (.cons rfl (.cons rfl (.cons rfl (.cons rfl (.cons rfl (.cons rfl (.cons rfl .nil))))))))) ?_)
      refine Fw.block ?_
      refine Fw.loop (fun m_ f_ W_ => ∃ (j : Nat) (lo2 : Int) (hi2 : Int), m_ = qs[k].an.length - j ∧ j ≤ qs[k].an.length ∧ Tk.Mm (Tk.outs qs rs k ++ Tk.terms (qs[k].an.take j)) lo2 hi2 ∧ Blk W_ gt 24 #[.string nm, .int .i64 ver, .slice Tq qs.length cq] ∧ World.ownsRow W_ w.heap.size 4 1 (.slice (some ⟨gR, 0, none⟩) fs.length cR) fs.length (rs.map .bool) ∧ Below (w.heap.size) w W_ ∧ f_ = [(41, .int .i64 j), (40, .int .i64 qs[k].an.length), (39, .slice qs[k].A qs[k].an.length qs[k].c), (27, .int .i64 k), (26, .int .i64 fs.length), (25, .slice (some ⟨gR, 0, none⟩) fs.length cR), (7, .int .i64 hi2), (6, .int .i64 lo2), (2, .pointer (some ⟨gt, 0, none⟩))]) ⟨_, _, ⟨0, lo, hi, rfl, Nat.zero_le _, (by rw [List.take_zero]; simpa [Tk.terms] using hmm), Ht, HR, HB, rfl⟩, (.cons rfl (.cons rfl (.cons rfl (.cons rfl (.cons rfl (.cons rfl (.cons rfl (.cons rfl (.cons rfl .nil)))))))))⟩ ?_
      clear Ht HR HB
      rintro m19_ _ w8 ⟨j, lo2, hi2, hm19_, hj, hmm2, Ht, HR, HB, rfl⟩
      refine Fw.seq fun _ hK20 => ?_
      refine Fw.region ?_
      refine Fw.s2 (Fw.val_bin rfl rfl Fw.b_lss) rfl ?_ ?_
      · rintro hlt2
        refine Fw.nil ?_
        refine hK20 _ _ ?_
        refine Fw.seq fun _ hK22 => ?_
        refine Fw.condT rfl ?_
        refine Fw.skip ?_
        refine hK22 _ _ ?_
        refine Fw.seq fun _ hK23 => ?_
        refine Fw.block ?_
        refine Fw.seq fun _ hK24 => ?_
        have hj2 : j < qs[k].an.length := by omega
        obtain ⟨ad, b_, o_, hA, hadd, HAe⟩ := Fw.rdAt Tk.An.len (by decide) hqa j hj2
        refine Fw.region ?_
        refine Fw.s (Fw.val_indexR Try.underlying28 sz68 rfl hA rfl rfl hj2 hadd) rfl ?_
        refine Fw.ldA ag68 rfl ((HAe.low HB)) rfl rfl ?_
        refine Fw.alloc ze68 rfl ?_
        intro w9 ga ega Ha hb
        have n_gt_ga : gt < ga := by have := Ht.lt; omega
        have lga : w.heap.size ≤ ga := by have := HB.size; omega
        replace Ht := Ht.low hb
        replace HR := own_below HR hb (Nat.le_refl _)
        replace HB := HB.trans (hb.mono HB.size)
        clear hb
        clear ega
        refine Fw.storeW sz68 rfl rfl Ha rfl rfl (by exact Fw.oneCells rfl) ?_
        intro w10 N_ hc
        replace Ht := Ht.chg hc (by omega)
        replace HR := own_to HR hc (fun g_ h_ e_ => own_ne HR Ha (by decide) (by rw [h_, e_]))
        replace HB := HB.trans (hc.below (B := w.heap.size) (fun k e => by omega) HB.size)
        clear hc
        clear Ha
        have Ha := N_
        clear N_
        replace Ha : Blk w10 ga 68 #[.string qs[k].an[j].text, .int .i64 qs[k].an[j].next, .int .i64 qs[k].an[j].urg, .string qs[k].an[j].code] := Ha
        refine Fw.nil ?_
        refine hK24 _ _ ?_
        refine Fw.seq fun _ hK26 => ?_
        refine Fw.seq fun _ hK27 => ?_
        refine Fw.region ?_
        refine Fw.s (Fw.val_fieldAddr fl68_1 rfl rfl) rfl ?_
        refine Fw.ld sc3 rfl (Ha.cell 1) rfl ?_
        refine Fw.s2 (Fw.val_bin rfl rfl Fw.b_geq) rfl ?_ ?_
        · rintro hge
          refine Fw.nil ?_
          refine hK27 _ _ ?_
          refine Fw.condT rfl ?_
          refine Fw.exit ?_
          refine Fw.X_exit ?_
          refine Fw.X_block ?_
          refine hK23 _ _ (Fw.FC.sub (f' := [(41, _), (40, _), (39, _), (27, _), (26, _), (25, _), (7, _), (6, _), (2, _)]) (.cons rfl (.cons rfl (.cons rfl (.cons rfl (.cons rfl (.cons rfl (.cons rfl (.cons rfl (.cons rfl .nil))))))))) ?_)
          refine Fw.region ?_
          refine Fw.s (Fw.val_bin rfl rfl (Fw.b_add (Fw.i64_ok (by omega)))) rfl ?_
          refine Fw.s (Fw.val_move rfl) rfl ?_
          refine Fw.nil ?_
          refine Fw.roundEnd _ _ (by omega) ⟨j + 1, lo2, hi2, rfl, by omega, by rw [Tk.terms_step hj2, if_pos hge]; exact hmm2, Ht, HR, HB, rfl⟩ (.cons rfl (.cons rfl (.cons rfl (.cons rfl (.cons rfl (.cons rfl (.cons rfl (.cons rfl (.cons rfl .nil)))))))))
        · rintro hge
          refine Fw.nil ?_
          refine hK27 _ _ ?_
          refine Fw.condF rfl ?_
          refine Fw.skip ?_
          refine hK26 _ _ ?_
          refine Fw.seq fun _ hK29 => ?_
          refine Fw.seq fun _ hK30 => ?_
          refine Fw.region ?_
          refine Fw.s (Fw.val_move rfl) rfl ?_
          refine Fw.s2 (Fw.val_bin rfl rfl Fw.b_eql) rfl ?_ ?_
          · rintro hl0
            refine Fw.s (Fw.val_move rfl) rfl ?_
            refine Fw.gF (d := 50) rfl rfl rfl rfl ?_
            refine Fw.gF (d := 50) rfl rfl rfl rfl ?_
            refine Fw.gF (d := 50) rfl rfl rfl rfl ?_
            refine Fw.gF (d := 50) rfl rfl rfl rfl ?_
            refine Fw.s (Fw.val_pickT rfl rfl) rfl ?_
            refine Fw.nil ?_
            refine hK30 _ _ (Fw.FC.sub (f' := [(55, _), (54, _), (53, _), (52, _), (51, _), (11, _), (41, _), (40, _), (39, _), (27, _), (26, _), (25, _), (7, _), (6, _), (2, _)]) (.cons rfl (.cons rfl (.cons rfl (.cons rfl (.cons rfl (.cons rfl (.cons rfl (.cons rfl (.cons rfl (.cons rfl (.cons rfl (.cons rfl (.cons rfl (.cons rfl (.cons rfl .nil))))))))))))))) ?_)
            refine Fw.condT rfl ?_
            refine Fw.region ?_
            refine Fw.s (Fw.val_fieldAddr fl68_2 rfl rfl) rfl ?_
            refine Fw.ld sc3 rfl (Ha.cell 2) rfl ?_
            refine Fw.s (Fw.val_assign rfl) rfl ?_
            refine Fw.nil ?_
            refine hK29 _ _ ?_
            refine Fw.region ?_
            refine Fw.s (Fw.val_move rfl) rfl ?_
            refine Fw.s (Fw.val_fieldAddr fl68_2 rfl rfl) rfl ?_
            refine Fw.ld sc3 rfl (Ha.cell 2) rfl ?_
            refine Fw.s (Fw.val_max rfl rfl rfl) rfl ?_
            refine Fw.s (Fw.val_assign rfl) rfl ?_
            refine Fw.nil ?_
            refine Fw.X_blockN ?_
            refine hK23 _ _ (Fw.FC.sub (f' := [(7, _), (6, _), (54, _), (53, _), (52, _), (51, _), (41, _), (40, _), (39, _), (27, _), (26, _), (25, _), (2, _)]) (.cons rfl (.cons rfl (.cons rfl (.cons rfl (.cons rfl (.cons rfl (.cons rfl (.cons rfl (.cons rfl (.cons rfl (.cons rfl (.cons rfl (.cons rfl .nil))))))))))))) ?_)
            refine Fw.region ?_
            refine Fw.s (Fw.val_bin rfl rfl (Fw.b_add (Fw.i64_ok (by omega)))) rfl ?_
            refine Fw.s (Fw.val_move rfl) rfl ?_
            refine Fw.nil ?_
            refine Fw.roundEnd _ _ (by omega) ⟨j + 1, qs[k].an[j].urg, if qs[k].an[j].urg > hi2 then qs[k].an[j].urg else hi2, rfl, by omega, by rw [Tk.terms_step hj2, if_neg hge, ← List.append_assoc]; exact hmm2.lo (hgv.urg hk4 hj2 hge) (by omega), Ht, HR, HB, rfl⟩ (.cons rfl (.cons rfl (.cons rfl (.cons rfl (.cons rfl (.cons rfl (.cons rfl (.cons rfl (.cons rfl .nil)))))))))
          · rintro hl0
            refine Fw.s (Fw.val_move rfl) rfl ?_
            refine Fw.gT (d := 50) rfl rfl ?_
            refine Fw.s (Fw.val_fieldAddr fl68_2 rfl rfl) rfl ?_
            refine Fw.gT (d := 50) rfl rfl ?_
            refine Fw.ld sc3 rfl (Ha.cell 2) rfl ?_
            refine Fw.gT (d := 50) rfl rfl ?_
            refine Fw.s (Fw.val_move rfl) rfl ?_
            refine Fw.gT (d := 50) rfl rfl ?_
            refine Fw.s2 (Fw.val_bin rfl rfl Fw.b_lss) rfl ?_ ?_
            · rintro hult
              refine Fw.s (Fw.val_pickF rfl rfl) rfl ?_
              refine Fw.nil ?_
              refine hK30 _ _ (Fw.FC.sub (f' := [(55, _), (54, _), (53, _), (52, _), (51, _), (11, _), (41, _), (40, _), (39, _), (27, _), (26, _), (25, _), (7, _), (6, _), (2, _)]) (.cons rfl (.cons rfl (.cons rfl (.cons rfl (.cons rfl (.cons rfl (.cons rfl (.cons rfl (.cons rfl (.cons rfl (.cons rfl (.cons rfl (.cons rfl (.cons rfl (.cons rfl .nil))))))))))))))) ?_)
              refine Fw.condT rfl ?_
              refine Fw.region ?_
              refine Fw.s (Fw.val_fieldAddr fl68_2 rfl rfl) rfl ?_
              refine Fw.ld sc3 rfl (Ha.cell 2) rfl ?_
              refine Fw.s (Fw.val_assign rfl) rfl ?_
              refine Fw.nil ?_
              refine hK29 _ _ ?_
              refine Fw.region ?_
              refine Fw.s (Fw.val_move rfl) rfl ?_
              refine Fw.s (Fw.val_fieldAddr fl68_2 rfl rfl) rfl ?_
              refine Fw.ld sc3 rfl (Ha.cell 2) rfl ?_
              refine Fw.s (Fw.val_max rfl rfl rfl) rfl ?_
              refine Fw.s (Fw.val_assign rfl) rfl ?_
              refine Fw.nil ?_
              refine Fw.X_blockN ?_
              refine hK23 _ _ (Fw.FC.sub (f' := [(7, _), (6, _), (54, _), (53, _), (52, _), (51, _), (41, _), (40, _), (39, _), (27, _), (26, _), (25, _), (2, _)]) (.cons rfl (.cons rfl (.cons rfl (.cons rfl (.cons rfl (.cons rfl (.cons rfl (.cons rfl (.cons rfl (.cons rfl (.cons rfl (.cons rfl (.cons rfl .nil))))))))))))) ?_)
              refine Fw.region ?_
              refine Fw.s (Fw.val_bin rfl rfl (Fw.b_add (Fw.i64_ok (by omega)))) rfl ?_
              refine Fw.s (Fw.val_move rfl) rfl ?_
              refine Fw.nil ?_
              refine Fw.roundEnd _ _ (by omega) ⟨j + 1, qs[k].an[j].urg, if qs[k].an[j].urg > hi2 then qs[k].an[j].urg else hi2, rfl, by omega, by rw [Tk.terms_step hj2, if_neg hge, ← List.append_assoc]; exact hmm2.lo (hgv.urg hk4 hj2 hge) (by omega), Ht, HR, HB, rfl⟩ (.cons rfl (.cons rfl (.cons rfl (.cons rfl (.cons rfl (.cons rfl (.cons rfl (.cons rfl (.cons rfl .nil)))))))))
            · rintro hult
              refine Fw.s (Fw.val_pickF rfl rfl) rfl ?_
              refine Fw.nil ?_
              refine hK30 _ _ (Fw.FC.sub (f' := [(55, _), (54, _), (53, _), (52, _), (51, _), (11, _), (41, _), (40, _), (39, _), (27, _), (26, _), (25, _), (7, _), (6, _), (2, _)]) (.cons rfl (.cons rfl (.cons rfl (.cons rfl (.cons rfl (.cons rfl (.cons rfl (.cons rfl (.cons rfl (.cons rfl (.cons rfl (.cons rfl (.cons rfl (.cons rfl (.cons rfl .nil))))))))))))))) ?_)
              refine Fw.condF rfl ?_
              refine Fw.skip ?_
              refine hK29 _ _ ?_
              refine Fw.region ?_
              refine Fw.s (Fw.val_move rfl) rfl ?_
              refine Fw.s (Fw.val_fieldAddr fl68_2 rfl rfl) rfl ?_
              refine Fw.ld sc3 rfl (Ha.cell 2) rfl ?_
              refine Fw.s (Fw.val_max rfl rfl rfl) rfl ?_
              refine Fw.s (Fw.val_assign rfl) rfl ?_
              refine Fw.nil ?_
              refine Fw.X_blockN ?_
              refine hK23 _ _ (Fw.FC.sub (f' := [(7, _), (54, _), (53, _), (52, _), (51, _), (41, _), (40, _), (39, _), (27, _), (26, _), (25, _), (6, _), (2, _)]) (.cons rfl (.cons rfl (.cons rfl (.cons rfl (.cons rfl (.cons rfl (.cons rfl (.cons rfl (.cons rfl (.cons rfl (.cons rfl (.cons rfl (.cons rfl .nil))))))))))))) ?_)
              refine Fw.region ?_
              refine Fw.s (Fw.val_bin rfl rfl (Fw.b_add (Fw.i64_ok (by omega)))) rfl ?_
              refine Fw.s (Fw.val_move rfl) rfl ?_
              refine Fw.nil ?_
              refine Fw.roundEnd _ _ (by omega) ⟨j + 1, lo2, if qs[k].an[j].urg > hi2 then qs[k].an[j].urg else hi2, rfl, by omega, by rw [Tk.terms_step hj2, if_neg hge, ← List.append_assoc]; exact hmm2.hi (hgv.urg hk4 hj2 hge) (by omega), Ht, HR, HB, rfl⟩ (.cons rfl (.cons rfl (.cons rfl (.cons rfl (.cons rfl (.cons rfl (.cons rfl (.cons rfl (.cons rfl .nil)))))))))
      · rintro hlt2
        refine Fw.nil ?_
        refine hK20 _ _ ?_
        refine Fw.seq fun _ hK33 => ?_
        refine Fw.condF rfl ?_
        refine Fw.exit ?_
        refine Fw.X_exit ?_
        refine Fw.X_exit ?_
        refine Fw.X_block ?_
        refine Fw.X_blockN ?_
        refine hK11 _ _ ?_
        refine Fw.region ?_
        refine Fw.s (Fw.val_bin rfl rfl (Fw.b_add (Fw.i64_ok (by omega)))) rfl ?_
        refine Fw.s (Fw.val_move rfl) rfl ?_
        refine Fw.nil ?_
        refine Fw.roundEnd _ _ (by omega) ⟨k + 1, lo2, hi2, rfl, by omega, by rw [Tk.outs_take hk4 hk3 hrt]; rw [List.take_of_length_le (by omega)] at hmm2; exact hmm2, Ht, HR, HB, rfl⟩ (.cons rfl (.cons rfl (.cons rfl (.cons rfl (.cons rfl (.cons rfl .nil))))))
    · rintro hrt
      refine Fw.s (Fw.val_assign rfl) rfl ?_
      refine Fw.s (Fw.val_assign rfl) rfl ?_
      refine Fw.nil ?_
      refine hK12 _ _ ?_
      refine Fw.seq fun _ hK34 => ?_
      refine Fw.seq fun _ hK35 => ?_
      refine Fw.region ?_
      refine Fw.s (Fw.val_move rfl) rfl ?_
      refine Fw.s (Fw.val_not rfl) rfl ?_
      refine Fw.nil ?_
      refine hK35 _ _ (Fw.FC.sub (f' := [(33, _), (8, _), (27, _), (26, _), (25, _), (7, _), (6, _), (2, _)]) (.cons rfl (.cons rfl (.cons rfl (.cons rfl (.cons rfl (.cons rfl (.cons rfl (.cons rfl .nil)))))))) ?_)
      refine Fw.condT rfl ?_
      refine Fw.exit ?_
      refine Fw.X_exit ?_
      refine Fw.X_block ?_
      refine hK11 _ _ ?_
      refine Fw.region ?_
      refine Fw.s (Fw.val_bin rfl rfl (Fw.b_add (Fw.i64_ok (by omega)))) rfl ?_
      refine Fw.s (Fw.val_move rfl) rfl ?_
      refine Fw.nil ?_
      refine Fw.roundEnd _ _ (by omega) ⟨k + 1, lo, hi, rfl, by omega, by rw [Tk.outs_skip hk3 hrt]; exact hmm, Ht, HR, HB, rfl⟩ (.cons rfl (.cons rfl (.cons rfl (.cons rfl (.cons rfl (.cons rfl .nil))))))
  · rintro hlt
    refine Fw.nil ?_
    refine hK8 _ _ ?_
    refine Fw.seq fun _ hK36 => ?_
    refine Fw.condF rfl ?_
    refine Fw.exit ?_
    refine Fw.X_exit ?_
    refine Fw.X_exit ?_
    refine Fw.X_block ?_
    refine hK5 _ _ ?_
    refine Fw.seq fun _ hK37 => ?_
    refine Fw.region ?_
    refine Fw.s (Fw.val_move rfl) rfl ?_
    refine Fw.s (Fw.val_move rfl) rfl ?_
    refine Fw.s (Fw.val_assign rfl) rfl ?_
    refine Fw.s (Fw.val_assign rfl) rfl ?_
    refine Fw.nil ?_
    refine hK37 _ _ (Fw.FC.sub (f' := [(5, _), (4, _)]) (.cons rfl (.cons rfl .nil)) ?_)
    refine Fw.ret ?_
    refine Fw.ret_ [.tmp 4, .tmp 5] [_, _] Try.results27 (.tmp rfl (.tmp rfl .nil)) ?_
    have hke : k = qs.length := by omega
    subst hke
    exact ⟨lo, hi, rfl, hmm.ur (by rw [← hfol.eq]; exact hre), HB⟩

end Go.Proofs.Ytpoacekefhblhaa
