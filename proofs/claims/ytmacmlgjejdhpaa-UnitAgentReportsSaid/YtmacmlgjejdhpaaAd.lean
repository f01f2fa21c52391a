/- Layer 29: the reference's radio. -/
import Derived.Test.YtmacmlgjejdhpaaAc
namespace Go.Proofs.Ytmacmlgjejdhpaa
set_option linter.unusedSimpArgs false
set_option linter.unusedVariables false
open Go.RowKit

/-- edges that stood at the start, below B -/
def ELow (w : World) (B : Nat) (Ae : Option Addr) (E : List Rg.Ed) : Prop := B ≤ w.heap.size ∧ ∃ w0, w0.heap.size ≤ B ∧ Rd w0 Ae (E.flatMap Rg.Ed.cells) ∧ Below w0.heap.size w0 w
theorem ELow.below {w w' : World} {B : Nat} {Ae : Option Addr} {E : List Rg.Ed} (h : ELow w B Ae E) (hb : Below B w w') : ELow w' B Ae E := by
  obtain ⟨h0, w0, h1, h2, h3⟩ := h
  exact ⟨Nat.le_trans h0 hb.size, w0, h1, h2, h3.trans (hb.mono h1)⟩
theorem ELow.rd {w : World} {B : Nat} {Ae : Option Addr} {E : List Rg.Ed} (h : ELow w B Ae E) : Rd w Ae (E.flatMap Rg.Ed.cells) := by
  obtain ⟨_, w0, h1, h2, h3⟩ := h
  exact h2.low h3
/-- what the radio's numbers keep -/
structure RaOk (N : Nat) (E : List Rg.Ed) (u : Int) (v d : Nat) (pp : List Nat) (sp mn r : Int) (mg : Or.F) : Prop where
  net : Rg.Net N E
  hv : v < N
  hd : d < N
  hp : ∀ i ∈ pp, ∃ h : i < E.length, 1 ≤ E[i].m ∧ E[i].m ≤ 1048576
  hsp : 0 ≤ sp ∧ ∀ i l, pp = i :: l → sp ≤ (Rg.ed E i).m
  hmn : 0 ≤ mn ∧ mn ≤ 1099511627776
  hr : 0 ≤ r ∧ r ≤ mn
  gu : mg.u = u
/-- the radio at q: its time, its fence -/
def RaAt (w : World) (B q N : Nat) (E : List Rg.Ed) (u : Int) (Ae : Option Addr) (ce : Nat) (mn : Int) (mg : Or.F) : Prop := B ≤ q ∧ ∃ (s : Int) (v : Nat) (i : Int) (d : Nat) (pp : List Nat) (A : Option Addr) (c : Nat) (sp : Int) (l : Or.S) (r : Int), Blk w q 50 #[.int .i64 (N : Int), .slice Ae E.length ce, .int .i64 mg.u, .int .i64 mg.o.u, .int .i64 mg.o.e, .int .i64 mg.o.k, .int .i64 mg.o.i, .int .i64 mg.o.n, .int .i64 s, .int .i64 (v : Int), .int .i64 i, .int .i64 (d : Int), .slice A pp.length c, .int .i64 sp, .int .i64 mn, .int .i64 l.u, .int .i64 l.q, .int .i64 l.s, .int .i64 l.n, .int .i64 l.e, .int .i64 r] ∧ Fw.RdT w 3 A (Rg.ints pp) ∧ pp.length ≤ c ∧ ELow w B Ae E ∧ RaOk N E u v d pp sp mn r mg
theorem RaAt.lt {w : World} {B q N : Nat} {E : List Rg.Ed} {u : Int} {Ae : Option Addr} {ce : Nat} {mn : Int} {mg : Or.F} (h : RaAt w B q N E u Ae ce mn mg) : B ≤ q ∧ q < w.heap.size ∧ B ≤ w.heap.size := by
  obtain ⟨h1, _, _, _, _, _, _, _, _, _, _, h2, _, _, h3, _⟩ := h
  exact ⟨h1, h2.lt, h3.1⟩
theorem RaAt.low {w w' : World} {B q N : Nat} {E : List Rg.Ed} {u : Int} {Ae : Option Addr} {ce : Nat} {mn : Int} {mg : Or.F} (h : RaAt w B q N E u Ae ce mn mg) (hb : Below w.heap.size w w') : RaAt w' B q N E u Ae ce mn mg := by
  have hl := h.lt.2.2
  obtain ⟨h0, s, v, i, d, pp, A, c, sp, l, r, h1, h2, h3, h4, h5⟩ := h
  exact ⟨h0, s, v, i, d, pp, A, c, sp, l, r, h1.low hb, h2.low hb, h3, h4.below (hb.mono hl), h5⟩
/-- a radio goes over an agent's change -/
theorem RaAt.other {w w' : World} {B q N : Nat} {E : List Rg.Ed} {u : Int} {Ae : Option Addr} {ce : Nat} {mn : Int} {mg : Or.F} {p pf pg N' : Nat} {E' : List Rg.Ed} {u' : Int} {a : Ag} (h : RaAt w B q N E u Ae ce mn mg) (h' : AgAt w p pf pg N' E' u' a) (hc : Chg (fun k => k = p ∨ k = pf) w w') (h1 : B ≤ p) (h2 : B ≤ pf) : RaAt w' B q N E u Ae ce mn mg := by
  have hl := h.lt.2.2
  have hk := h'.kp hc
  obtain ⟨h0, s, v, i, d, pp, A, c, sp, l, r, k1, k2, k3, k4, k5⟩ := h
  exact ⟨h0, s, v, i, d, pp, A, c, sp, l, r, k1.kp hk rfl, k2.kp hk rfl, k3, k4.below (hc.below (fun k e => by omega) hl), k5⟩
/-- an agent goes over a radio's change -/
theorem AgAt.radio {w w' : World} {B q N : Nat} {E : List Rg.Ed} {u : Int} {Ae : Option Addr} {ce : Nat} {mn : Int} {mg : Or.F} {p pf pg N' : Nat} {E' : List Rg.Ed} {u' : Int} {a : Ag} (h' : AgAt w p pf pg N' E' u' a) (h : RaAt w B q N E u Ae ce mn mg) (hc : Chg (· = q) w w') : AgAt w' p pf pg N' E' u' a := by
  obtain ⟨_, _, _, _, _, _, _, _, _, _, _, k1, _⟩ := h
  have hk := (Fw.Kp.refl [50] w).one hc k1 rfl
  have h1 : p ≠ q := by obtain ⟨_, _, a1, _⟩ := h'; exact Blk.ne_ a1 k1 (by decide)
  have h2 : pf ≠ q := by obtain ⟨_, _, _, _, _, a4, _⟩ := h'; exact Blk.ne_ a4 k1 (by decide)
  exact h'.over hc hk h1 h2 rfl rfl rfl rfl
namespace Ag
theorem route_ok {E : List Rg.Ed} {d : Nat} : ∀ {v : Nat} {p : List Nat}, Rg.Route E d v p → ∀ i ∈ p, ∃ h : i < E.length, 1 ≤ E[i].m ∧ E[i].m ≤ 1048576
  | _, [], _, i, hi => by cases hi
  | _, j :: l, ⟨_, h2, h3, h4⟩, i, hi => by
    rcases List.mem_cons.1 hi with rfl | hi
    exact ⟨h2, h3⟩
    exact route_ok h4 i hi
theorem _root_.Go.Proofs.Ytmacmlgjejdhpaa.Rg.ems_take {E : List Rg.Ed} {k : Nat} (hk : k < E.length) : (Rg.ems E).take (k + 1) = (Rg.ems E).take k ++ [E[k].m] := by
  have h : k < (Rg.ems E).length := by unfold Rg.ems; simpa using hk
  rw [List.take_succ_eq_append_getElem h]
  have e : (Rg.ems E)[k] = E[k].m := by simp [Rg.ems]
  rw [e]
theorem hold1 {t : Int} (h : t < 0) : cl t = 0 := by unfold cl; omega
theorem hold2 {t : Int} (h : ¬ t < 0) (h' : 1099511627776 < t) : cl t = 1099511627776 := by unfold cl; omega
theorem hold3 {t : Int} (h : ¬ t < 0) (h' : ¬ 1099511627776 < t) : cl t = t := by unfold cl; omega
end Ag
theorem RaOk.lead {N : Nat} {E : List Rg.Ed} {u : Int} {v d d' : Nat} {pp : List Nat} {sp mn r : Int} {mg : Or.F} (h : RaOk N E u v d pp sp mn r mg) (hd : d' < N) : RaOk N E u v d' (Rg.wayOf N E v d') 0 mn r mg :=
  ⟨h.net, h.hv, hd, Ag.route_ok (Rg.wayOf_route N E v d'), ⟨Int.le_refl _, fun i l e => by
    have hm : i ∈ Rg.wayOf N E v d' := by rw [e]; simp
    obtain ⟨h1, h2⟩ := Ag.route_ok (Rg.wayOf_route N E v d') i hm
    rw [Rg.ed_at h1]; omega⟩, h.hmn, h.hr, h.gu⟩
theorem RaOk.time {N : Nat} {E : List Rg.Ed} {u : Int} {v d : Nat} {pp : List Nat} {sp mn mn' r : Int} {mg : Or.F} (h : RaOk N E u v d pp sp mn r mg) (h1 : mn ≤ mn') (h2 : mn' ≤ 1099511627776) : RaOk N E u v d pp sp mn' r mg :=
  ⟨h.net, h.hv, h.hd, h.hp, h.hsp, ⟨by have := h.hmn; omega, h2⟩, ⟨h.hr.1, by have := h.hr; omega⟩, h.gu⟩

set_option maxRecDepth 100000 in
set_option maxHeartbeats 1000000 in
theorem hold_any (t : Int) (w : World) : Calls Try.prog 57 #[.int .i64 t] w fun e_ w' => e_ = .returned (.int .i64 (Ag.cl t)) ∧ w = w' := by
  refine Fw.calls Try.func57 rfl Try.ntmps57 rfl ?_
  refine Fw.seq fun _ hK1 => ?_
  refine Fw.region ?_
  refine Fw.s (Fw.val_assign rfl) rfl ?_
  refine Fw.nil ?_
  refine hK1 _ _ ?_
  refine Fw.seq fun _ hK2 => ?_
  refine Fw.seq fun _ hK3 => ?_
  refine Fw.region ?_
  refine Fw.s (Fw.val_move rfl) rfl ?_
  refine Fw.s2 (Fw.val_bin rfl rfl Fw.b_lss) rfl ?_ ?_
  rintro h1
  refine Fw.nil ?_
  refine hK3 _ _ ?_
  refine Fw.condT rfl ?_
  refine Fw.seq fun _ hK5 => ?_
  refine Fw.region ?_
  refine Fw.s (Fw.val_assign rfl) rfl ?_
  refine Fw.nil ?_
  refine hK5 _ _ ?_
  refine Fw.ret ?_
  refine Fw.X_ret ?_
  refine Fw.ret_ [.tmp 2] [_] Try.results57 (.tmp rfl .nil) ?_
  exact ⟨ret_int (Ag.hold1 h1).symm, rfl⟩
  rintro h1
  refine Fw.nil ?_
  refine hK3 _ _ ?_
  refine Fw.condF rfl ?_
  refine Fw.skip ?_
  refine hK2 _ _ ?_
  refine Fw.seq fun _ hK6 => ?_
  refine Fw.seq fun _ hK7 => ?_
  refine Fw.region ?_
  refine Fw.s (Fw.val_move rfl) rfl ?_
  refine Fw.s2 (Fw.val_bin rfl rfl Fw.b_gtr) rfl ?_ ?_
  rintro h2
  refine Fw.nil ?_
  refine hK7 _ _ ?_
  refine Fw.condT rfl ?_
  refine Fw.seq fun _ hK9 => ?_
  refine Fw.region ?_
  refine Fw.s (Fw.val_assign rfl) rfl ?_
  refine Fw.nil ?_
  refine hK9 _ _ ?_
  refine Fw.ret ?_
  refine Fw.X_ret ?_
  refine Fw.ret_ [.tmp 2] [_] Try.results57 (.tmp rfl .nil) ?_
  exact ⟨ret_int (Ag.hold2 h1 h2).symm, rfl⟩
  rintro h2
  refine Fw.nil ?_
  refine hK7 _ _ ?_
  refine Fw.condF rfl ?_
  refine Fw.skip ?_
  refine hK6 _ _ ?_
  refine Fw.seq fun _ hK10 => ?_
  refine Fw.region ?_
  refine Fw.s (Fw.val_move rfl) rfl ?_
  refine Fw.s (Fw.val_assign rfl) rfl ?_
  refine Fw.nil ?_
  refine hK10 _ _ (Fw.FC.sub (f' := [(2, _)]) (.cons rfl .nil) ?_)
  refine Fw.ret ?_
  refine Fw.ret_ [.tmp 2] [_] Try.results57 (.tmp rfl .nil) ?_
  exact ⟨ret_int (Ag.hold3 h1 h2).symm, rfl⟩

set_option maxRecDepth 100000 in
set_option maxHeartbeats 1000000 in
theorem rtimes_any (w : World) (B q N : Nat) (E : List Rg.Ed) (u : Int) (Ae : Option Addr) (ce : Nat) (mn : Int) (mg : Or.F) (h : RaAt w B q N E u Ae ce mn mg) : Calls Try.prog 65 #[.pointer (some ⟨q, 0, none⟩)] w fun e_ w' => ∃ A' c', e_ = .returned (.slice A' (Rg.ems E).length c') ∧ w'.ownsRow w.heap.size 2 1 (.slice A' (Rg.ems E).length c') (Rg.ems E).length ((Rg.ems E).map (.int .i64)) ∧ Below w.heap.size w w' := by
  obtain ⟨hBq, s, v, i, d, pp, A, c, sp, l, r, HR, HP, hpc, HE, ho⟩ := h
  have hql := HR.lt
  have hE := HE.rd
  have hnE := ho.net.e
  refine Fw.calls Try.func65 rfl Try.ntmps65 rfl ?_
  have HB := Below.refl (w.heap.size) w
  refine Fw.seq fun _ hK1 => ?_
  refine Fw.region ?_
  refine Fw.s (Fw.val_assign rfl) rfl ?_
  refine Fw.nil ?_
  refine hK1 _ _ ?_
  refine Fw.seq fun _ hK2 => ?_
  refine Fw.region ?_
  refine Fw.buildSlice [] sl100 rfl rfl (by exact Fw.allSz rfl) (by decide) rfl ?_
  intro w1 gS5 egS5 HS5 hb
  have lgS5 : w.heap.size ≤ gS5 := by have := HB.size; omega
  replace HB := HB.trans (hb.mono HB.size)
  clear hb
  clear egS5
  refine Fw.s (Fw.val_assign rfl) rfl ?_
  refine Fw.nil ?_
  refine hK2 _ _ ?_
  refine Fw.seq fun _ hK3 => ?_
  refine Fw.seq fun _ hK4 => ?_
  refine Fw.region ?_
  refine Fw.s (Fw.val_assign rfl) rfl ?_
  refine Fw.nil ?_
  refine hK4 _ _ ?_
  refine Fw.block ?_
  have HL : w1.ownsRow w.heap.size 2 1 (.slice (some ⟨gS5, 0, none⟩) 0 0) 0 (((Rg.ems E).take 0).map (.int .i64)) := by exact Fw.own_blk HS5 lgS5 (by unfold maxLen; omega) rfl
  refine Fw.loop (fun m_ f_ W_ => ∃ (k : Nat) (A_ : Option Addr) (c_ : Nat), m_ = E.length - k ∧ k ≤ E.length ∧ W_.ownsRow w.heap.size 2 1 (.slice A_ k c_) k (((Rg.ems E).take k).map (.int .i64)) ∧ Below (w.heap.size) w W_ ∧ f_ = [(4, .int .i64 k), (3, .slice A_ k c_), (0, .pointer (some ⟨q, 0, none⟩))]) ⟨_, _, ⟨0, _, _, rfl, Nat.zero_le _, HL, HB, rfl⟩, (.cons rfl (.cons rfl (.cons rfl .nil)))⟩ ?_
  clear HL HB
  rintro m5_ _ w2 ⟨k, A_, c_, hm5_, hkn, HL, HB, rfl⟩
  refine Fw.seq fun _ hK6 => ?_
  refine Fw.seq fun _ hK7 => ?_
  refine Fw.region ?_
  refine Fw.s (Fw.val_move rfl) rfl ?_
  refine Fw.s (Fw.val_move rfl) rfl ?_
  refine Fw.s (Fw.val_nil rfl) rfl ?_
  refine Fw.s (Fw.val_fieldAddr fl50_0 rfl rfl) rfl ?_
  refine Fw.s (Fw.val_fieldAddr fl24_1 rfl rfl) rfl ?_
  refine Fw.ld sc22 rfl ((HR.low HB).cell 1) rfl ?_
  refine Fw.s (Fw.val_len Try.underlying22 rfl) rfl ?_
  refine Fw.s2 (Fw.val_bin rfl rfl Fw.b_lss) rfl ?_ ?_
  rintro hlt
  refine Fw.nil ?_
  refine hK7 _ _ (Fw.FC.sub (f' := [(13, _), (4, _), (3, _), (0, _)]) (.cons rfl (.cons rfl (.cons rfl (.cons rfl .nil)))) ?_)
  refine Fw.condT rfl ?_
  refine Fw.skip ?_
  refine hK6 _ _ ?_
  refine Fw.seq fun _ hK9 => ?_
  refine Fw.block ?_
  have hk : k < E.length := by omega
  obtain ⟨ad, b_, o_, hA, hadd, HEe⟩ := Fw.rdAt Rg.Ed.len (by decide) hE k hk
  refine Fw.region ?_
  refine Fw.s (Fw.val_move rfl) rfl ?_
  refine Fw.s (Fw.val_move rfl) rfl ?_
  refine Fw.s (Fw.val_nil rfl) rfl ?_
  refine Fw.s (Fw.val_fieldAddr fl50_0 rfl rfl) rfl ?_
  refine Fw.s (Fw.val_fieldAddr fl24_1 rfl rfl) rfl ?_
  refine Fw.ld sc22 rfl ((HR.low HB).cell 1) rfl ?_
  refine Fw.s (Fw.val_move rfl) rfl ?_
  refine Fw.s (Fw.val_indexR Try.underlying22 sz75 rfl hA rfl rfl hk hadd) rfl ?_
  refine Fw.s (Fw.val_fieldAddr fl75_2 rfl rfl) rfl ?_
  refine Fw.ld sc2 rfl (Fw.rdCell (HEe.low HB) 2 rfl) rfl ?_
  refine Fw.buildSlice [_] sl100 rfl rfl (by exact Fw.allSz rfl) (by decide) rfl ?_
  intro w3 gS26 egS26 HS26 hb
  have lgS26 : w.heap.size ≤ gS26 := by have := HB.size; omega
  replace HL := own_below HL hb (Nat.le_refl _)
  replace HB := HB.trans (hb.mono HB.size)
  clear hb
  clear egS26
  have hl1 : (Rg.ems E).length = E.length := by unfold Rg.ems; simp
  refine Fw.append (k + 1) (((Rg.ems E).take (k + 1)).map (.int .i64)) sl100 rfl rfl HL (Fw.rdBlk HS26) rfl (Fw.oneCellsL rfl) (by unfold maxLen; omega) HB.size rfl (by rw [Rg.ems_take hk, List.map_append]; rfl) rfl ?_
  intro A27 c27 w4 N_ hbb hc _
  replace HB := HB.trans hbb
  clear hbb hc HL HS26
  have HL := N_
  clear N_
  refine Fw.s (Fw.val_assign rfl) rfl ?_
  refine Fw.nil ?_
  refine Fw.X_blockN ?_
  refine hK9 _ _ (Fw.FC.sub (f' := [(3, _), (4, _), (0, _)]) (.cons rfl (.cons rfl (.cons rfl .nil))) ?_)
  refine Fw.region ?_
  refine Fw.s (Fw.val_move rfl) rfl ?_
  refine Fw.s (Fw.val_bin rfl rfl (Fw.b_add (Fw.i64_ok (by omega)))) rfl ?_
  refine Fw.s (Fw.val_assign rfl) rfl ?_
  refine Fw.nil ?_
  refine Fw.roundEnd _ _ (by omega) ⟨k + 1, _, _, rfl, by omega, HL, HB, rfl⟩ (.cons rfl (.cons rfl (.cons rfl .nil)))
  rintro hlt
  refine Fw.nil ?_
  refine hK7 _ _ (Fw.FC.sub (f' := [(13, _), (4, _), (3, _), (0, _)]) (.cons rfl (.cons rfl (.cons rfl (.cons rfl .nil)))) ?_)
  refine Fw.condF rfl ?_
  refine Fw.exit ?_
  refine Fw.X_exit ?_
  refine Fw.X_exit ?_
  refine Fw.X_block ?_
  refine hK3 _ _ ?_
  refine Fw.seq fun _ hK11 => ?_
  refine Fw.region ?_
  refine Fw.s (Fw.val_move rfl) rfl ?_
  refine Fw.s (Fw.val_assign rfl) rfl ?_
  refine Fw.nil ?_
  refine hK11 _ _ ?_
  refine Fw.ret ?_
  refine Fw.ret_ [.tmp 2] [_] Try.results65 (.tmp rfl .nil) ?_
  have hk : k = E.length := by omega
  have hl1 : (Rg.ems E).length = E.length := by unfold Rg.ems; simp
  subst hk
  rw [List.take_of_length_le (by omega)] at HL
  rw [hl1]
  exact ⟨A_, c_, rfl, HL, HB⟩

set_option maxRecDepth 100000 in
set_option maxHeartbeats 1000000 in
theorem lead_any (w : World) (B q N : Nat) (E : List Rg.Ed) (u : Int) (Ae : Option Addr) (ce : Nat) (mn : Int) (mg : Or.F) (h : RaAt w B q N E u Ae ce mn mg) (d' : Nat) (hd' : d' < N) : Calls Try.prog 55 #[.pointer (some ⟨q, 0, none⟩), .int .i64 (d' : Int)] w fun e_ w' => e_ = .returned (.tuple #[]) ∧ RaAt w' B q N E u Ae ce mn mg ∧ Chg (· = q) w w' := by
  obtain ⟨hBq, s, v, i, d, pp, A, c, sp, l, r, HR, HP, hpc, HE, ho⟩ := h
  have hql := HR.lt
  have hn := ho.net
  have hn1 := hn.n
  have hn2 := hn.e
  refine Fw.calls Try.func55 rfl Try.ntmps55 rfl ?_
  have HC := Chg.refl (· = q) w
  refine Fw.seq fun _ hK1 => ?_
  refine Fw.region ?_
  refine Fw.s (Fw.val_move rfl) rfl ?_
  refine Fw.s (Fw.val_move rfl) rfl ?_
  refine Fw.s (Fw.val_move rfl) rfl ?_
  refine Fw.s (Fw.val_nil rfl) rfl ?_
  refine Fw.s (Fw.val_fieldAddr fl50_5 rfl rfl) rfl ?_
  refine Fw.store sz3 rfl rfl HR rfl rfl rfl ?_
  intro w1 N_ hc
  replace HP := HP.chg hc (Fw.RdT.ne_ HP HR (by decide))
  replace HE := HE.below (hc.below (B := B) (fun k e => by omega) HE.1)
  replace HC := HC.trans hc (fun k hk_ e => by first | exact e | (left; exact e) | (right; exact e) | (exfalso; omega))
  clear hc
  clear HR
  have HR := N_
  clear N_
  replace HR : Blk w1 q 50 #[.int .i64 (N : Int), .slice Ae E.length ce, .int .i64 mg.u, .int .i64 mg.o.u, .int .i64 mg.o.e, .int .i64 mg.o.k, .int .i64 mg.o.i, .int .i64 mg.o.n, .int .i64 s, .int .i64 (v : Int), .int .i64 i, .int .i64 (d' : Int), .slice A pp.length c, .int .i64 sp, .int .i64 mn, .int .i64 l.u, .int .i64 l.q, .int .i64 l.s, .int .i64 l.n, .int .i64 l.e, .int .i64 r] := HR
  refine Fw.s (Fw.val_nil rfl) rfl ?_
  refine Fw.s (Fw.val_fieldAddr fl50_7 rfl rfl) rfl ?_
  refine Fw.store sz2 rfl rfl HR rfl rfl rfl ?_
  intro w2 N_ hc
  replace HP := HP.chg hc (Fw.RdT.ne_ HP HR (by decide))
  replace HE := HE.below (hc.below (B := B) (fun k e => by omega) HE.1)
  replace HC := HC.trans hc (fun k hk_ e => by first | exact e | (left; exact e) | (right; exact e) | (exfalso; omega))
  clear hc
  clear HR
  have HR := N_
  clear N_
  replace HR : Blk w2 q 50 #[.int .i64 (N : Int), .slice Ae E.length ce, .int .i64 mg.u, .int .i64 mg.o.u, .int .i64 mg.o.e, .int .i64 mg.o.k, .int .i64 mg.o.i, .int .i64 mg.o.n, .int .i64 s, .int .i64 (v : Int), .int .i64 i, .int .i64 (d' : Int), .slice A pp.length c, .int .i64 0, .int .i64 mn, .int .i64 l.u, .int .i64 l.q, .int .i64 l.s, .int .i64 l.n, .int .i64 l.e, .int .i64 r] := HR
  refine Fw.nil ?_
  refine hK1 _ _ (Fw.FC.sub (f' := [(0, _), (1, _)]) (.cons rfl (.cons rfl .nil)) ?_)
  have ho2 : RaOk N E u v d' pp 0 mn r mg := ⟨ho.net, ho.hv, hd', ho.hp, ⟨Int.le_refl _, fun i l e => by obtain ⟨h1, h2⟩ := ho.hp i (by rw [e]; simp); rw [Rg.ed_at h1]; omega⟩, ho.hmn, ho.hr, ho.gu⟩
  refine Fw.regionHS (Chg (· = q) w2) (by kernel_rfl) (Chg.of_below (Fw.drew_low w2) _) ?_
  have R_HR := HR
  intro w3 hb HS
  replace HR := HR.low hb
  replace HP := HP.low hb
  replace HE := HE.below (hb.mono HE.1)
  replace HC := HC.trans (Chg.of_below hb (· = q)) (fun _ _ h => h)
  clear hb
  refine Fw.hTk 0 rfl rfl (Fw.yV (Fw.val_move rfl)) rfl ?_
  refine Fw.hTk 1 rfl rfl (Fw.yV (Fw.val_move rfl)) rfl ?_
  refine Fw.hTk 2 rfl rfl (Fw.yV (Fw.val_nil rfl)) rfl ?_
  refine Fw.hTk 3 rfl rfl (Fw.yV (Fw.val_fieldAddr fl50_0 rfl rfl)) rfl ?_
  refine Fw.hTk 5 rfl rfl (Fw.yV (Fw.val_move rfl)) rfl ?_
  refine Fw.hTk 7 rfl rfl (Fw.yV (Fw.val_move rfl)) rfl ?_
  refine Fw.hTk 8 rfl rfl (Fw.yV (Fw.val_nil rfl)) rfl ?_
  refine Fw.hTk 9 rfl rfl (Fw.yV (Fw.val_fieldAddr fl50_3 rfl rfl)) rfl ?_
  refine Fw.hTk 11 rfl rfl (Fw.yV (Fw.val_move rfl)) rfl ?_
  refine Fw.hAll3 4 6 10 (by kernel_rfl) ?_ ?_ ?_
  refine Fw.hOp 4 rfl ?_
  refine Fw.ldA ag24 rfl (Fw.rdPart (Fw.rdBlk HR) 0 2) rfl rfl ?_
  refine Fw.hNext HS ?_
  refine Fw.hAll2 6 10 (by kernel_rfl) ?_ ?_
  refine Fw.hOp 6 rfl ?_
  refine Fw.call cf65 rfl rfl (rtimes_any _ B q N E u Ae ce mn mg ⟨hBq, s, v, i, d', pp, A, c, 0, l, r, HR, HP, hpc, HE, ho2⟩) ?_
  rintro e_ w4 ⟨AT, cT, rfl, HT, hb⟩
  refine ⟨_, rfl, ?_⟩
  replace HR := HR.low hb
  replace HP := HP.low hb
  replace HE := HE.below (hb.mono HE.1)
  replace HS := HS.trans (Chg.of_below hb _) (fun _ _ h => h)
  replace HC := HC.trans (Chg.of_below hb (· = q)) (fun _ _ h => h)
  clear hb
  refine Fw.hNext HS ?_
  refine Fw.hAll1 10 (by kernel_rfl) ?_
  refine Fw.hOp 10 rfl ?_
  refine Fw.ld sc3 rfl (HR.cell 9) rfl ?_
  refine Fw.hNext HS ?_
  refine Fw.hAll1 12 (by kernel_rfl) ?_
  refine Fw.hOp 12 rfl ?_
  refine Fw.call cf64 rfl rfl (way_any _ N E Ae ce HE.rd hn.ok (by omega) (by omega) AT (Rg.ems E) cT (Rd.of_own HT) v d' ho.hv hd' (Rg.distOf N E d') (Rg.distOf_spec hn.ok (by omega) hd')) ?_
  rintro e_ w5 ⟨A2, c2, l2, rfl, HO, hz, ht, hb⟩
  refine ⟨_, rfl, ?_⟩
  replace HR := HR.low hb
  replace HP := HP.low hb
  replace HE := HE.below (hb.mono HE.1)
  replace HS := HS.trans (Chg.of_below hb _) (fun _ _ h => h)
  replace HT := own_below HT hb (Nat.le_refl _)
  replace HC := HC.trans (Chg.of_below hb (· = q)) (fun _ _ h => h)
  clear hb
  obtain rfl : l2 = Rg.wayOf N E v d' := Rg.wayOf_eq hz ht
  clear HT
  refine Fw.hNext HS ?_
  refine Fw.hTk 13 rfl rfl (Fw.yV (Fw.val_move rfl)) rfl ?_
  refine Fw.hTk 14 rfl rfl (Fw.yV (Fw.val_extract rfl rfl)) rfl ?_
  refine Fw.hTk 15 rfl rfl (Fw.yV (Fw.val_extract rfl rfl)) rfl ?_
  refine Fw.hTk 16 rfl rfl (Fw.yV (Fw.val_extract rfl rfl)) rfl ?_
  refine Fw.hTk 17 rfl rfl (Fw.yV (Fw.val_nil rfl)) rfl ?_
  refine Fw.hTk 18 rfl rfl (Fw.yV (Fw.val_fieldAddr fl50_6 rfl rfl)) rfl ?_
  refine Fw.hAll1 19 (by kernel_rfl) ?_
  refine Fw.hOp 19 rfl ?_
  refine Fw.store sz46 rfl rfl HR rfl rfl rfl ?_
  intro w6 N_ hc
  replace HP := HP.chg hc (Fw.RdT.ne_ HP HR (by decide))
  replace HE := HE.below (hc.below (B := B) (fun k e => by omega) HE.1)
  replace HS := HS.trans hc (fun _ _ h => h)
  replace HO := own_to HO hc (fun g_ h_ e_ => own_ne HO HR (by decide) (by rw [h_, e_]))
  replace HC := HC.trans hc (fun k hk_ e => by first | exact e | (left; exact e) | (right; exact e) | (exfalso; omega))
  clear hc
  clear HR
  have HR := N_
  clear N_
  replace HR : Blk w6 q 50 #[.int .i64 (N : Int), .slice Ae E.length ce, .int .i64 mg.u, .int .i64 mg.o.u, .int .i64 mg.o.e, .int .i64 mg.o.k, .int .i64 mg.o.i, .int .i64 mg.o.n, .int .i64 s, .int .i64 (v : Int), .int .i64 i, .int .i64 (d' : Int), .slice A2 (Rg.wayOf N E v d').length c2, .int .i64 0, .int .i64 mn, .int .i64 l.u, .int .i64 l.q, .int .i64 l.s, .int .i64 l.n, .int .i64 l.e, .int .i64 r] := HR
  refine Fw.hNext HS ?_
  refine Fw.hDone (by kernel_rfl) ?_
  refine Fw.end_ [] [] Try.results55 .nil ?_
  replace HP := Fw.RdT.own HO
  exact ⟨rfl, ⟨hBq, s, v, i, d', Rg.wayOf N E v d', A2, c2, 0, l, r, HR, HP, own_le HO, HE, ho.lead hd'⟩, HC⟩
  refine Fw.hOp 10 rfl ?_
  refine Fw.ld sc3 rfl (HR.cell 9) rfl ?_
  refine Fw.hNext HS ?_
  refine Fw.hAll1 6 (by kernel_rfl) ?_
  refine Fw.hOp 6 rfl ?_
  refine Fw.call cf65 rfl rfl (rtimes_any _ B q N E u Ae ce mn mg ⟨hBq, s, v, i, d', pp, A, c, 0, l, r, HR, HP, hpc, HE, ho2⟩) ?_
  rintro e_ w7 ⟨AT, cT, rfl, HT, hb⟩
  refine ⟨_, rfl, ?_⟩
  replace HR := HR.low hb
  replace HP := HP.low hb
  replace HE := HE.below (hb.mono HE.1)
  replace HS := HS.trans (Chg.of_below hb _) (fun _ _ h => h)
  replace HC := HC.trans (Chg.of_below hb (· = q)) (fun _ _ h => h)
  clear hb
  refine Fw.hNext HS ?_
  refine Fw.hAll1 12 (by kernel_rfl) ?_
  refine Fw.hOp 12 rfl ?_
  refine Fw.call cf64 rfl rfl (way_any _ N E Ae ce HE.rd hn.ok (by omega) (by omega) AT (Rg.ems E) cT (Rd.of_own HT) v d' ho.hv hd' (Rg.distOf N E d') (Rg.distOf_spec hn.ok (by omega) hd')) ?_
  rintro e_ w8 ⟨A2, c2, l2, rfl, HO, hz, ht, hb⟩
  refine ⟨_, rfl, ?_⟩
  replace HR := HR.low hb
  replace HP := HP.low hb
  replace HE := HE.below (hb.mono HE.1)
  replace HS := HS.trans (Chg.of_below hb _) (fun _ _ h => h)
  replace HT := own_below HT hb (Nat.le_refl _)
  replace HC := HC.trans (Chg.of_below hb (· = q)) (fun _ _ h => h)
  clear hb
  obtain rfl : l2 = Rg.wayOf N E v d' := Rg.wayOf_eq hz ht
  clear HT
  refine Fw.hNext HS ?_
  refine Fw.hTk 13 rfl rfl (Fw.yV (Fw.val_move rfl)) rfl ?_
  refine Fw.hTk 14 rfl rfl (Fw.yV (Fw.val_extract rfl rfl)) rfl ?_
  refine Fw.hTk 15 rfl rfl (Fw.yV (Fw.val_extract rfl rfl)) rfl ?_
  refine Fw.hTk 16 rfl rfl (Fw.yV (Fw.val_extract rfl rfl)) rfl ?_
  refine Fw.hTk 17 rfl rfl (Fw.yV (Fw.val_nil rfl)) rfl ?_
  refine Fw.hTk 18 rfl rfl (Fw.yV (Fw.val_fieldAddr fl50_6 rfl rfl)) rfl ?_
  refine Fw.hAll1 19 (by kernel_rfl) ?_
  refine Fw.hOp 19 rfl ?_
  refine Fw.store sz46 rfl rfl HR rfl rfl rfl ?_
  intro w9 N_ hc
  replace HP := HP.chg hc (Fw.RdT.ne_ HP HR (by decide))
  replace HE := HE.below (hc.below (B := B) (fun k e => by omega) HE.1)
  replace HS := HS.trans hc (fun _ _ h => h)
  replace HO := own_to HO hc (fun g_ h_ e_ => own_ne HO HR (by decide) (by rw [h_, e_]))
  replace HC := HC.trans hc (fun k hk_ e => by first | exact e | (left; exact e) | (right; exact e) | (exfalso; omega))
  clear hc
  clear HR
  have HR := N_
  clear N_
  replace HR : Blk w9 q 50 #[.int .i64 (N : Int), .slice Ae E.length ce, .int .i64 mg.u, .int .i64 mg.o.u, .int .i64 mg.o.e, .int .i64 mg.o.k, .int .i64 mg.o.i, .int .i64 mg.o.n, .int .i64 s, .int .i64 (v : Int), .int .i64 i, .int .i64 (d' : Int), .slice A2 (Rg.wayOf N E v d').length c2, .int .i64 0, .int .i64 mn, .int .i64 l.u, .int .i64 l.q, .int .i64 l.s, .int .i64 l.n, .int .i64 l.e, .int .i64 r] := HR
  refine Fw.hNext HS ?_
  refine Fw.hDone (by kernel_rfl) ?_
  refine Fw.end_ [] [] Try.results55 .nil ?_
  replace HP := Fw.RdT.own HO
  exact ⟨rfl, ⟨hBq, s, v, i, d', Rg.wayOf N E v d', A2, c2, 0, l, r, HR, HP, own_le HO, HE, ho.lead hd'⟩, HC⟩
  refine Fw.hOp 6 rfl ?_
  refine Fw.call cf65 rfl rfl (rtimes_any _ B q N E u Ae ce mn mg ⟨hBq, s, v, i, d', pp, A, c, 0, l, r, HR, HP, hpc, HE, ho2⟩) ?_
  rintro e_ w10 ⟨AT, cT, rfl, HT, hb⟩
  refine ⟨_, rfl, ?_⟩
  replace HR := HR.low hb
  replace HP := HP.low hb
  replace HE := HE.below (hb.mono HE.1)
  replace HS := HS.trans (Chg.of_below hb _) (fun _ _ h => h)
  replace HC := HC.trans (Chg.of_below hb (· = q)) (fun _ _ h => h)
  clear hb
  refine Fw.hNext HS ?_
  refine Fw.hAll2 4 10 (by kernel_rfl) ?_ ?_
  refine Fw.hOp 4 rfl ?_
  refine Fw.ldA ag24 rfl (Fw.rdPart (Fw.rdBlk HR) 0 2) rfl rfl ?_
  refine Fw.hNext HS ?_
  refine Fw.hAll1 10 (by kernel_rfl) ?_
  refine Fw.hOp 10 rfl ?_
  refine Fw.ld sc3 rfl (HR.cell 9) rfl ?_
  refine Fw.hNext HS ?_
  refine Fw.hAll1 12 (by kernel_rfl) ?_
  refine Fw.hOp 12 rfl ?_
  refine Fw.call cf64 rfl rfl (way_any _ N E Ae ce HE.rd hn.ok (by omega) (by omega) AT (Rg.ems E) cT (Rd.of_own HT) v d' ho.hv hd' (Rg.distOf N E d') (Rg.distOf_spec hn.ok (by omega) hd')) ?_
  rintro e_ w11 ⟨A2, c2, l2, rfl, HO, hz, ht, hb⟩
  refine ⟨_, rfl, ?_⟩
  replace HR := HR.low hb
  replace HP := HP.low hb
  replace HE := HE.below (hb.mono HE.1)
  replace HS := HS.trans (Chg.of_below hb _) (fun _ _ h => h)
  replace HT := own_below HT hb (Nat.le_refl _)
  replace HC := HC.trans (Chg.of_below hb (· = q)) (fun _ _ h => h)
  clear hb
  obtain rfl : l2 = Rg.wayOf N E v d' := Rg.wayOf_eq hz ht
  clear HT
  refine Fw.hNext HS ?_
  refine Fw.hTk 13 rfl rfl (Fw.yV (Fw.val_move rfl)) rfl ?_
  refine Fw.hTk 14 rfl rfl (Fw.yV (Fw.val_extract rfl rfl)) rfl ?_
  refine Fw.hTk 15 rfl rfl (Fw.yV (Fw.val_extract rfl rfl)) rfl ?_
  refine Fw.hTk 16 rfl rfl (Fw.yV (Fw.val_extract rfl rfl)) rfl ?_
  refine Fw.hTk 17 rfl rfl (Fw.yV (Fw.val_nil rfl)) rfl ?_
  refine Fw.hTk 18 rfl rfl (Fw.yV (Fw.val_fieldAddr fl50_6 rfl rfl)) rfl ?_
  refine Fw.hAll1 19 (by kernel_rfl) ?_
  refine Fw.hOp 19 rfl ?_
  refine Fw.store sz46 rfl rfl HR rfl rfl rfl ?_
  intro w12 N_ hc
  replace HP := HP.chg hc (Fw.RdT.ne_ HP HR (by decide))
  replace HE := HE.below (hc.below (B := B) (fun k e => by omega) HE.1)
  replace HS := HS.trans hc (fun _ _ h => h)
  replace HO := own_to HO hc (fun g_ h_ e_ => own_ne HO HR (by decide) (by rw [h_, e_]))
  replace HC := HC.trans hc (fun k hk_ e => by first | exact e | (left; exact e) | (right; exact e) | (exfalso; omega))
  clear hc
  clear HR
  have HR := N_
  clear N_
  replace HR : Blk w12 q 50 #[.int .i64 (N : Int), .slice Ae E.length ce, .int .i64 mg.u, .int .i64 mg.o.u, .int .i64 mg.o.e, .int .i64 mg.o.k, .int .i64 mg.o.i, .int .i64 mg.o.n, .int .i64 s, .int .i64 (v : Int), .int .i64 i, .int .i64 (d' : Int), .slice A2 (Rg.wayOf N E v d').length c2, .int .i64 0, .int .i64 mn, .int .i64 l.u, .int .i64 l.q, .int .i64 l.s, .int .i64 l.n, .int .i64 l.e, .int .i64 r] := HR
  refine Fw.hNext HS ?_
  refine Fw.hDone (by kernel_rfl) ?_
  refine Fw.end_ [] [] Try.results55 .nil ?_
  replace HP := Fw.RdT.own HO
  exact ⟨rfl, ⟨hBq, s, v, i, d', Rg.wayOf N E v d', A2, c2, 0, l, r, HR, HP, own_le HO, HE, ho.lead hd'⟩, HC⟩
  refine Fw.hOp 10 rfl ?_
  refine Fw.ld sc3 rfl (HR.cell 9) rfl ?_
  refine Fw.hNext HS ?_
  refine Fw.hAll1 4 (by kernel_rfl) ?_
  refine Fw.hOp 4 rfl ?_
  refine Fw.ldA ag24 rfl (Fw.rdPart (Fw.rdBlk HR) 0 2) rfl rfl ?_
  refine Fw.hNext HS ?_
  refine Fw.hAll1 12 (by kernel_rfl) ?_
  refine Fw.hOp 12 rfl ?_
  refine Fw.call cf64 rfl rfl (way_any _ N E Ae ce HE.rd hn.ok (by omega) (by omega) AT (Rg.ems E) cT (Rd.of_own HT) v d' ho.hv hd' (Rg.distOf N E d') (Rg.distOf_spec hn.ok (by omega) hd')) ?_
  rintro e_ w13 ⟨A2, c2, l2, rfl, HO, hz, ht, hb⟩
  refine ⟨_, rfl, ?_⟩
  replace HR := HR.low hb
  replace HP := HP.low hb
  replace HE := HE.below (hb.mono HE.1)
  replace HS := HS.trans (Chg.of_below hb _) (fun _ _ h => h)
  replace HT := own_below HT hb (Nat.le_refl _)
  replace HC := HC.trans (Chg.of_below hb (· = q)) (fun _ _ h => h)
  clear hb
  obtain rfl : l2 = Rg.wayOf N E v d' := Rg.wayOf_eq hz ht
  clear HT
  refine Fw.hNext HS ?_
  refine Fw.hTk 13 rfl rfl (Fw.yV (Fw.val_move rfl)) rfl ?_
  refine Fw.hTk 14 rfl rfl (Fw.yV (Fw.val_extract rfl rfl)) rfl ?_
  refine Fw.hTk 15 rfl rfl (Fw.yV (Fw.val_extract rfl rfl)) rfl ?_
  refine Fw.hTk 16 rfl rfl (Fw.yV (Fw.val_extract rfl rfl)) rfl ?_
  refine Fw.hTk 17 rfl rfl (Fw.yV (Fw.val_nil rfl)) rfl ?_
  refine Fw.hTk 18 rfl rfl (Fw.yV (Fw.val_fieldAddr fl50_6 rfl rfl)) rfl ?_
  refine Fw.hAll1 19 (by kernel_rfl) ?_
  refine Fw.hOp 19 rfl ?_
  refine Fw.store sz46 rfl rfl HR rfl rfl rfl ?_
  intro w14 N_ hc
  replace HP := HP.chg hc (Fw.RdT.ne_ HP HR (by decide))
  replace HE := HE.below (hc.below (B := B) (fun k e => by omega) HE.1)
  replace HS := HS.trans hc (fun _ _ h => h)
  replace HO := own_to HO hc (fun g_ h_ e_ => own_ne HO HR (by decide) (by rw [h_, e_]))
  replace HC := HC.trans hc (fun k hk_ e => by first | exact e | (left; exact e) | (right; exact e) | (exfalso; omega))
  clear hc
  clear HR
  have HR := N_
  clear N_
  replace HR : Blk w14 q 50 #[.int .i64 (N : Int), .slice Ae E.length ce, .int .i64 mg.u, .int .i64 mg.o.u, .int .i64 mg.o.e, .int .i64 mg.o.k, .int .i64 mg.o.i, .int .i64 mg.o.n, .int .i64 s, .int .i64 (v : Int), .int .i64 i, .int .i64 (d' : Int), .slice A2 (Rg.wayOf N E v d').length c2, .int .i64 0, .int .i64 mn, .int .i64 l.u, .int .i64 l.q, .int .i64 l.s, .int .i64 l.n, .int .i64 l.e, .int .i64 r] := HR
  refine Fw.hNext HS ?_
  refine Fw.hDone (by kernel_rfl) ?_
  refine Fw.end_ [] [] Try.results55 .nil ?_
  replace HP := Fw.RdT.own HO
  exact ⟨rfl, ⟨hBq, s, v, i, d', Rg.wayOf N E v d', A2, c2, 0, l, r, HR, HP, own_le HO, HE, ho.lead hd'⟩, HC⟩
  refine Fw.hOp 10 rfl ?_
  refine Fw.ld sc3 rfl (HR.cell 9) rfl ?_
  refine Fw.hNext HS ?_
  refine Fw.hAll2 4 6 (by kernel_rfl) ?_ ?_
  refine Fw.hOp 4 rfl ?_
  refine Fw.ldA ag24 rfl (Fw.rdPart (Fw.rdBlk HR) 0 2) rfl rfl ?_
  refine Fw.hNext HS ?_
  refine Fw.hAll1 6 (by kernel_rfl) ?_
  refine Fw.hOp 6 rfl ?_
  refine Fw.call cf65 rfl rfl (rtimes_any _ B q N E u Ae ce mn mg ⟨hBq, s, v, i, d', pp, A, c, 0, l, r, HR, HP, hpc, HE, ho2⟩) ?_
  rintro e_ w15 ⟨AT, cT, rfl, HT, hb⟩
  refine ⟨_, rfl, ?_⟩
  replace HR := HR.low hb
  replace HP := HP.low hb
  replace HE := HE.below (hb.mono HE.1)
  replace HS := HS.trans (Chg.of_below hb _) (fun _ _ h => h)
  replace HC := HC.trans (Chg.of_below hb (· = q)) (fun _ _ h => h)
  clear hb
  refine Fw.hNext HS ?_
  refine Fw.hAll1 12 (by kernel_rfl) ?_
  refine Fw.hOp 12 rfl ?_
  refine Fw.call cf64 rfl rfl (way_any _ N E Ae ce HE.rd hn.ok (by omega) (by omega) AT (Rg.ems E) cT (Rd.of_own HT) v d' ho.hv hd' (Rg.distOf N E d') (Rg.distOf_spec hn.ok (by omega) hd')) ?_
  rintro e_ w16 ⟨A2, c2, l2, rfl, HO, hz, ht, hb⟩
  refine ⟨_, rfl, ?_⟩
  replace HR := HR.low hb
  replace HP := HP.low hb
  replace HE := HE.below (hb.mono HE.1)
  replace HS := HS.trans (Chg.of_below hb _) (fun _ _ h => h)
  replace HT := own_below HT hb (Nat.le_refl _)
  replace HC := HC.trans (Chg.of_below hb (· = q)) (fun _ _ h => h)
  clear hb
  obtain rfl : l2 = Rg.wayOf N E v d' := Rg.wayOf_eq hz ht
  clear HT
  refine Fw.hNext HS ?_
  refine Fw.hTk 13 rfl rfl (Fw.yV (Fw.val_move rfl)) rfl ?_
  refine Fw.hTk 14 rfl rfl (Fw.yV (Fw.val_extract rfl rfl)) rfl ?_
  refine Fw.hTk 15 rfl rfl (Fw.yV (Fw.val_extract rfl rfl)) rfl ?_
  refine Fw.hTk 16 rfl rfl (Fw.yV (Fw.val_extract rfl rfl)) rfl ?_
  refine Fw.hTk 17 rfl rfl (Fw.yV (Fw.val_nil rfl)) rfl ?_
  refine Fw.hTk 18 rfl rfl (Fw.yV (Fw.val_fieldAddr fl50_6 rfl rfl)) rfl ?_
  refine Fw.hAll1 19 (by kernel_rfl) ?_
  refine Fw.hOp 19 rfl ?_
  refine Fw.store sz46 rfl rfl HR rfl rfl rfl ?_
  intro w17 N_ hc
  replace HP := HP.chg hc (Fw.RdT.ne_ HP HR (by decide))
  replace HE := HE.below (hc.below (B := B) (fun k e => by omega) HE.1)
  replace HS := HS.trans hc (fun _ _ h => h)
  replace HO := own_to HO hc (fun g_ h_ e_ => own_ne HO HR (by decide) (by rw [h_, e_]))
  replace HC := HC.trans hc (fun k hk_ e => by first | exact e | (left; exact e) | (right; exact e) | (exfalso; omega))
  clear hc
  clear HR
  have HR := N_
  clear N_
  replace HR : Blk w17 q 50 #[.int .i64 (N : Int), .slice Ae E.length ce, .int .i64 mg.u, .int .i64 mg.o.u, .int .i64 mg.o.e, .int .i64 mg.o.k, .int .i64 mg.o.i, .int .i64 mg.o.n, .int .i64 s, .int .i64 (v : Int), .int .i64 i, .int .i64 (d' : Int), .slice A2 (Rg.wayOf N E v d').length c2, .int .i64 0, .int .i64 mn, .int .i64 l.u, .int .i64 l.q, .int .i64 l.s, .int .i64 l.n, .int .i64 l.e, .int .i64 r] := HR
  refine Fw.hNext HS ?_
  refine Fw.hDone (by kernel_rfl) ?_
  refine Fw.end_ [] [] Try.results55 .nil ?_
  replace HP := Fw.RdT.own HO
  exact ⟨rfl, ⟨hBq, s, v, i, d', Rg.wayOf N E v d', A2, c2, 0, l, r, HR, HP, own_le HO, HE, ho.lead hd'⟩, HC⟩
  refine Fw.hOp 6 rfl ?_
  refine Fw.call cf65 rfl rfl (rtimes_any _ B q N E u Ae ce mn mg ⟨hBq, s, v, i, d', pp, A, c, 0, l, r, HR, HP, hpc, HE, ho2⟩) ?_
  rintro e_ w18 ⟨AT, cT, rfl, HT, hb⟩
  refine ⟨_, rfl, ?_⟩
  replace HR := HR.low hb
  replace HP := HP.low hb
  replace HE := HE.below (hb.mono HE.1)
  replace HS := HS.trans (Chg.of_below hb _) (fun _ _ h => h)
  replace HC := HC.trans (Chg.of_below hb (· = q)) (fun _ _ h => h)
  clear hb
  refine Fw.hNext HS ?_
  refine Fw.hAll1 4 (by kernel_rfl) ?_
  refine Fw.hOp 4 rfl ?_
  refine Fw.ldA ag24 rfl (Fw.rdPart (Fw.rdBlk HR) 0 2) rfl rfl ?_
  refine Fw.hNext HS ?_
  refine Fw.hAll1 12 (by kernel_rfl) ?_
  refine Fw.hOp 12 rfl ?_
  refine Fw.call cf64 rfl rfl (way_any _ N E Ae ce HE.rd hn.ok (by omega) (by omega) AT (Rg.ems E) cT (Rd.of_own HT) v d' ho.hv hd' (Rg.distOf N E d') (Rg.distOf_spec hn.ok (by omega) hd')) ?_
  rintro e_ w19 ⟨A2, c2, l2, rfl, HO, hz, ht, hb⟩
  refine ⟨_, rfl, ?_⟩
  replace HR := HR.low hb
  replace HP := HP.low hb
  replace HE := HE.below (hb.mono HE.1)
  replace HS := HS.trans (Chg.of_below hb _) (fun _ _ h => h)
  replace HT := own_below HT hb (Nat.le_refl _)
  replace HC := HC.trans (Chg.of_below hb (· = q)) (fun _ _ h => h)
  clear hb
  obtain rfl : l2 = Rg.wayOf N E v d' := Rg.wayOf_eq hz ht
  clear HT
  refine Fw.hNext HS ?_
  refine Fw.hTk 13 rfl rfl (Fw.yV (Fw.val_move rfl)) rfl ?_
  refine Fw.hTk 14 rfl rfl (Fw.yV (Fw.val_extract rfl rfl)) rfl ?_
  refine Fw.hTk 15 rfl rfl (Fw.yV (Fw.val_extract rfl rfl)) rfl ?_
  refine Fw.hTk 16 rfl rfl (Fw.yV (Fw.val_extract rfl rfl)) rfl ?_
  refine Fw.hTk 17 rfl rfl (Fw.yV (Fw.val_nil rfl)) rfl ?_
  refine Fw.hTk 18 rfl rfl (Fw.yV (Fw.val_fieldAddr fl50_6 rfl rfl)) rfl ?_
  refine Fw.hAll1 19 (by kernel_rfl) ?_
  refine Fw.hOp 19 rfl ?_
  refine Fw.store sz46 rfl rfl HR rfl rfl rfl ?_
  intro w20 N_ hc
  replace HP := HP.chg hc (Fw.RdT.ne_ HP HR (by decide))
  replace HE := HE.below (hc.below (B := B) (fun k e => by omega) HE.1)
  replace HS := HS.trans hc (fun _ _ h => h)
  replace HO := own_to HO hc (fun g_ h_ e_ => own_ne HO HR (by decide) (by rw [h_, e_]))
  replace HC := HC.trans hc (fun k hk_ e => by first | exact e | (left; exact e) | (right; exact e) | (exfalso; omega))
  clear hc
  clear HR
  have HR := N_
  clear N_
  replace HR : Blk w20 q 50 #[.int .i64 (N : Int), .slice Ae E.length ce, .int .i64 mg.u, .int .i64 mg.o.u, .int .i64 mg.o.e, .int .i64 mg.o.k, .int .i64 mg.o.i, .int .i64 mg.o.n, .int .i64 s, .int .i64 (v : Int), .int .i64 i, .int .i64 (d' : Int), .slice A2 (Rg.wayOf N E v d').length c2, .int .i64 0, .int .i64 mn, .int .i64 l.u, .int .i64 l.q, .int .i64 l.s, .int .i64 l.n, .int .i64 l.e, .int .i64 r] := HR
  refine Fw.hNext HS ?_
  refine Fw.hDone (by kernel_rfl) ?_
  refine Fw.end_ [] [] Try.results55 .nil ?_
  replace HP := Fw.RdT.own HO
  exact ⟨rfl, ⟨hBq, s, v, i, d', Rg.wayOf N E v d', A2, c2, 0, l, r, HR, HP, own_le HO, HE, ho.lead hd'⟩, HC⟩

set_option maxRecDepth 100000 in
set_option maxHeartbeats 1000000 in
theorem there_any (w : World) (B q N : Nat) (E : List Rg.Ed) (u : Int) (Ae : Option Addr) (ce : Nat) (mn : Int) (mg : Or.F) (h : RaAt w B q N E u Ae ce mn mg) : Calls Try.prog 56 #[.pointer (some ⟨q, 0, none⟩)] w fun e_ w' => e_ = .returned (.tuple #[]) ∧ RaAt w' B q N E u Ae ce mn mg ∧ Chg (· = q) w w' := by
  obtain ⟨hBq, s, v, i, d, pp, A, c, sp, l, r, HR, HP, hpc, HE, ho⟩ := h
  have hql := HR.lt
  refine Fw.calls Try.func56 rfl Try.ntmps56 rfl ?_
  have HC := Chg.refl (· = q) w
  refine Fw.seq fun _ hK1 => ?_
  refine Fw.regionQ (by kernel_rfl) (by kernel_rfl) ?_
  refine Fw.q (Fw.val_move rfl) rfl ?_
  refine Fw.q (Fw.val_nil rfl) rfl ?_
  refine Fw.q (Fw.val_fieldAddr fl50_2 rfl rfl) rfl ?_
  refine Fw.ldQ sc3 rfl (HR.cell 8) rfl ?_
  refine Fw.q2 (Fw.val_bin rfl rfl Fw.b_eql) rfl ?_ ?_
  rintro h3
  refine Fw.q (Fw.val_move rfl) rfl ?_
  refine Fw.gTQ (d := 7) rfl rfl ?_
  refine Fw.q (Fw.val_move rfl) rfl ?_
  refine Fw.gTQ (d := 7) rfl rfl ?_
  refine Fw.q (Fw.val_nil rfl) rfl ?_
  refine Fw.gTQ (d := 7) rfl rfl ?_
  refine Fw.q (Fw.val_fieldAddr fl50_3 rfl rfl) rfl ?_
  refine Fw.gTQ (d := 7) rfl rfl ?_
  refine Fw.ldQ sc3 rfl (HR.cell 9) rfl ?_
  refine Fw.gTQ (d := 7) rfl rfl ?_
  refine Fw.q (Fw.val_move rfl) rfl ?_
  refine Fw.gTQ (d := 7) rfl rfl ?_
  refine Fw.q (Fw.val_nil rfl) rfl ?_
  refine Fw.gTQ (d := 7) rfl rfl ?_
  refine Fw.q (Fw.val_fieldAddr fl50_5 rfl rfl) rfl ?_
  refine Fw.gTQ (d := 7) rfl rfl ?_
  refine Fw.ldQ sc3 rfl (HR.cell 11) rfl ?_
  refine Fw.gTQ (d := 7) rfl rfl ?_
  refine Fw.q2 (Fw.val_bin rfl rfl Fw.b_eql) rfl ?_ ?_
  rintro hvd
  refine Fw.q (Fw.val_pickT rfl rfl) rfl ?_
  refine Fw.nilQ ?_
  intro w1 hb
  replace HR := HR.low hb
  replace HP := HP.low hb
  replace HE := HE.below (hb.mono HE.1)
  replace HC := HC.trans (Chg.of_below hb (· = q)) (fun _ _ h => h)
  clear hb
  refine hK1 _ _ (Fw.FC.sub (f' := [(17, _), (0, _)]) (.cons rfl (.cons rfl .nil)) ?_)
  refine Fw.condT rfl ?_
  refine Fw.region ?_
  refine Fw.s (Fw.val_move rfl) rfl ?_
  refine Fw.s (Fw.val_nil rfl) rfl ?_
  refine Fw.s (Fw.val_fieldAddr fl50_2 rfl rfl) rfl ?_
  refine Fw.store sz3 rfl rfl HR rfl rfl rfl ?_
  intro w2 N_ hc
  replace HP := HP.chg hc (Fw.RdT.ne_ HP HR (by decide))
  replace HE := HE.below (hc.below (B := B) (fun k e => by omega) HE.1)
  replace HC := HC.trans hc (fun k hk_ e => by first | exact e | (left; exact e) | (right; exact e) | (exfalso; omega))
  clear hc
  clear HR
  have HR := N_
  clear N_
  replace HR : Blk w2 q 50 #[.int .i64 (N : Int), .slice Ae E.length ce, .int .i64 mg.u, .int .i64 mg.o.u, .int .i64 mg.o.e, .int .i64 mg.o.k, .int .i64 mg.o.i, .int .i64 mg.o.n, .int .i64 4, .int .i64 (v : Int), .int .i64 i, .int .i64 (d : Int), .slice A pp.length c, .int .i64 sp, .int .i64 mn, .int .i64 l.u, .int .i64 l.q, .int .i64 l.s, .int .i64 l.n, .int .i64 l.e, .int .i64 r] := HR
  refine Fw.nil ?_
  refine Fw.end_ [] [] Try.results56 .nil ?_
  exact ⟨rfl, ⟨hBq, 4, v, i, d, pp, A, c, sp, l, r, HR, HP, hpc, HE, ho⟩, HC⟩
  rintro hvd
  refine Fw.q (Fw.val_pickT rfl rfl) rfl ?_
  refine Fw.nilQ ?_
  intro w3 hb
  replace HR := HR.low hb
  replace HP := HP.low hb
  replace HE := HE.below (hb.mono HE.1)
  replace HC := HC.trans (Chg.of_below hb (· = q)) (fun _ _ h => h)
  clear hb
  refine hK1 _ _ (Fw.FC.sub (f' := [(17, _), (0, _)]) (.cons rfl (.cons rfl .nil)) ?_)
  refine Fw.condF rfl ?_
  refine Fw.skip ?_
  refine Fw.end_ [] [] Try.results56 .nil ?_
  exact ⟨rfl, ⟨hBq, s, v, i, d, pp, A, c, sp, l, r, HR, HP, hpc, HE, ho⟩, HC⟩
  rintro h3
  refine Fw.q (Fw.val_move rfl) rfl ?_
  refine Fw.gFQ (d := 7) rfl rfl rfl rfl ?_
  refine Fw.gFQ (d := 7) rfl rfl rfl rfl ?_
  refine Fw.gFQ (d := 7) rfl rfl rfl rfl ?_
  refine Fw.gFQ (d := 7) rfl rfl rfl rfl ?_
  refine Fw.gFQ (d := 7) rfl rfl rfl rfl ?_
  refine Fw.gFQ (d := 7) rfl rfl rfl rfl ?_
  refine Fw.gFQ (d := 7) rfl rfl rfl rfl ?_
  refine Fw.gFQ (d := 7) rfl rfl rfl rfl ?_
  refine Fw.gFQ (d := 7) rfl rfl rfl rfl ?_
  refine Fw.q (Fw.val_pickF rfl rfl) rfl ?_
  refine Fw.nilQ ?_
  intro w4 hb
  replace HR := HR.low hb
  replace HP := HP.low hb
  replace HE := HE.below (hb.mono HE.1)
  replace HC := HC.trans (Chg.of_below hb (· = q)) (fun _ _ h => h)
  clear hb
  refine hK1 _ _ (Fw.FC.sub (f' := [(17, _), (0, _)]) (.cons rfl (.cons rfl .nil)) ?_)
  refine Fw.condF rfl ?_
  refine Fw.skip ?_
  refine Fw.end_ [] [] Try.results56 .nil ?_
  exact ⟨rfl, ⟨hBq, s, v, i, d, pp, A, c, sp, l, r, HR, HP, hpc, HE, ho⟩, HC⟩

end Go.Proofs.Ytmacmlgjejdhpaa
