/- Layer 49: Encode, and Decode of what Encode made. -/
import Derived.Test.YtgmhcfhmpjpomaaT49
import Derived.Test.YtgmhcfhmpjpomaaWk
import Derived.Test.YtgmhcfhmpjpomaaHiL
namespace Go.Proofs.Ytgmhcfhmpjpomaa
set_option linter.unusedSimpArgs false
set_option linter.unusedVariables false
open Go.RowKit

namespace Hi
def recB (v : V) : List Int := Wr.enc v.t ++ (Wr.enc v.e ++ (Wr.enc (IntKind.i64.wrap v.b) ++ (Wr.enc (IntKind.i64.wrap v.d) ++ Wr.enc (IntKind.i64.wrap v.s))))
def encL (l : List V) : List Int := l.flatMap recB
def encB (l : List V) : List Int := Wr.enc (l.length : Nat) ++ encL l
theorem i64w (n : Int) : Wr.I64 (IntKind.i64.wrap n) := by unfold Wr.I64; rw [IntKind.wrap_i64]; omega
theorem encL_len : ∀ (l : List V), (∀ v ∈ l, v.ok) → (encL l).length ≤ 50 * l.length
  | [], _ => by simp [encL]
  | v :: l, h => by
    have ih := encL_len l (fun u hu => h u (by simp [hu]))
    obtain ⟨a, b, _⟩ := h v (by simp)
    have := Wr.enc_len (n := v.t) a; have := Wr.enc_len (n := v.e) b; have := Wr.enc_len (i64w v.b); have := Wr.enc_len (i64w v.d); have := Wr.enc_len (i64w v.s)
    simp only [encL, List.flatMap_cons, recB, List.length_append, List.length_cons] at ih ⊢; omega
theorem encL_snoc (l : List V) (k : Nat) (hk : k < l.length) : encL (l.take k) ++ recB l[k] = encL (l.take (k + 1)) := by
  rw [List.take_succ_eq_append_getElem hk]; simp only [encL, List.flatMap_append, List.flatMap_cons, List.flatMap_nil, List.append_nil]
theorem encL_drop (l : List V) (k : Nat) (hk : k < l.length) : encL (l.drop k) = recB l[k] ++ encL (l.drop (k + 1)) := by
  rw [List.drop_eq_getElem_cons hk]; rfl
theorem encL_bts (l : List V) : Wr.Bts (encL l) := fun x hx => by
  obtain ⟨v, _, h⟩ := List.mem_flatMap.1 hx
  simp only [recB, List.mem_append] at h
  rcases h with h | h | h | h | h <;> exact Wr.enc_bts _ x h
theorem wrap_back {n : Int} (h : Ck.U64 n) : IntKind.u64.wrap (IntKind.i64.wrap n) = n := by
  obtain ⟨h0, h1⟩ := h
  rw [IntKind.wrap_i64, IntKind.wrap_u64]; omega
end Hi
theorem RdAt.lt {w : World} {p : Nat} {r : Wr.R} (h : RdAt w p r) : p < w.heap.size := by obtain ⟨A, c, hb, _⟩ := h; exact hb.lt
theorem RdAt.own_ne {w : World} {p : Nat} {r : Wr.R} (h : RdAt w p r) {base : Nat} {e : TypeId} {size n c : Nat} {A : Option Addr} {xs : List Value} (ho : w.ownsRow base e size (.slice A n c) n xs) (hne : e ≠ 79) : A.map (·.block) ≠ some p := by
  obtain ⟨A', c', hb, _⟩ := h; exact _root_.Go.Proofs.Ytgmhcfhmpjpomaa.own_ne ho hb hne
theorem RdAt.kp {ts : List TypeId} {w w' : World} {p : Nat} {r : Wr.R} (h : RdAt w p r) (hk : Fw.Kp ts w w') (h1 : ts.contains 79 = false) (h2 : ts.contains 5 = false) : RdAt w' p r := by
  obtain ⟨A, c, a1, a2, a3, a4, a5⟩ := h
  have same : ∀ ad, A = some ad → w'.heap[ad.block]? = w.heap[ad.block]? := fun ad e => by
    obtain ⟨h6, cs, fr, h7⟩ := a5 ad e
    rw [h7]; exact hk.keep _ _ _ _ h7 h2
  refine ⟨A, c, a1.kp hk h1, a2.keep (fun p' _ h => ?_), a3, a4, fun ad e => ⟨(a5 ad e).1, by rw [same ad e]; exact (a5 ad e).2⟩⟩
  obtain ⟨ad, e, hb⟩ := h
  exact World.cell?_of_block (by rw [hb]; exact same ad e)
theorem WrAt.far {w w' : World} {B p g : Nat} {l : List Int} {t : TypeId} {cs : Array Value} (h : WrAt w B p l) (hc : Chg (· = g) w w') (hb : Blk w g t cs) (h1 : t ≠ 73) (h2 : 5 ≠ t) : WrAt w' B p l := by
  obtain ⟨hB, A, c, hk, ho⟩ := h
  exact ⟨hB, A, c, hk.chg hc (fun e => Blk.ne_ hb hk h1 e.symm), own_to ho hc (fun g' hg e => _root_.Go.Proofs.Ytgmhcfhmpjpomaa.own_ne ho hb h2 (by rw [hg, e]))⟩
theorem own_fresh {w : World} {g base : Nat} {e : TypeId} {size n c : Nat} {A : Option Addr} {xs : List Value} (h : w.ownsRow base e size (.slice A n c) n xs) (hg : g = w.heap.size) : A.map (·.block) ≠ some g := fun e' => by
  have := h.lt g (by rw [ownBlock_slice, e']); omega
theorem readEnc_any (w : World) (p : Nat) (n : Int) (L : List Int) (h : RdAt w p ⟨Wr.enc n ++ L, 0⟩) (hn : Wr.I64 n) (hL : Wr.Bts L) :
    Calls Try.prog 34 #[.pointer (some ⟨p, 0, none⟩)] w fun e w' => e = .returned (.int .i64 n) ∧ RdAt w' p ⟨L, 0⟩ ∧ Chg (· = p) w w' := by
  refine (readInt_any w p _ h (fun x hx => by rcases List.mem_append.1 hx with h | h
                                              · exact Wr.enc_bts _ x h
                                              · exact hL x h)).mono ?_
  rw [(Wr.rd_enc hn L).1, (Wr.rd_enc hn L).2]
  exact fun _ _ h => h

set_option maxRecDepth 100000 in
theorem encode_any (w : World) (A : Option Addr) (l : List Hi.V) (c : Nat) (h : Rd w A (Hi.vals l)) (hl : l.length ≤ 10000) (hok : ∀ v ∈ l, v.ok) :
    Calls Try.prog 25 #[.slice A l.length c] w fun e w' => ∃ A' c', e = .returned (.slice A' (Hi.encB l).length c') ∧ w'.ownsRow w.heap.size 5 1 (.slice A' (Hi.encB l).length c') (Hi.encB l).length ((Hi.encB l).map (.int .u8)) ∧ Below w.heap.size w w' := by
  have hI0 : Wr.I64 (l.length : Nat) := ⟨by omega, by omega⟩
  have hL0 := Wr.enc_len hI0
  refine Fw.calls Try.func25 rfl Try.ntmps25 rfl ?_
  have HB := Below.refl (w.heap.size) w
  refine Fw.seq fun _ hK1 => ?_
  refine Fw.region ?_
  refine Fw.s (Fw.val_assign rfl) rfl ?_
  refine Fw.nil ?_
  refine hK1 _ _ ?_
  refine Fw.seq fun _ hK2 => ?_
  refine Fw.region ?_
  refine Fw.alloc ze73 rfl ?_
  intro w1 gX3 egX3 HX3 hb
  have lgX3 : w.heap.size ≤ gX3 := by have := HB.size; omega
  replace HB := HB.trans (hb.mono HB.size)
  clear hb
  clear egX3
  refine Fw.nil ?_
  refine hK2 _ _ ?_
  refine Fw.seq fun _ hK3 => ?_
  have HW : WrAt w1 w.heap.size gX3 [] := ⟨lgX3, none, 0, HX3, World.ownsRow_nil _ _ _ _⟩
  clear HX3
  refine Fw.region ?_
  refine Fw.s (Fw.val_move rfl) rfl ?_
  refine Fw.s (Fw.val_len Try.underlying38 rfl) rfl ?_
  refine Fw.call cf36 rfl rfl (writerInt_kp _ w.heap.size gX3 ([]) ((l.length : Nat)) HW hI0 (by simp only [List.length_append, List.length_nil]; omega)) ?_
  rintro e_ w2 ⟨rfl, HW_, hbb, hkp⟩
  refine ⟨_, rfl, ?_⟩
  replace HB := HB.trans hbb
  clear HW hkp hbb
  have HW := HW_
  clear HW_
  refine Fw.nil ?_
  refine hK3 _ _ ?_
  refine Fw.seq fun _ hK4 => ?_
  refine Fw.seq fun _ hK5 => ?_
  replace HW : WrAt w2 w.heap.size gX3 (Wr.enc (l.length : Nat) ++ Hi.encL (l.take 0)) := by simpa [Hi.encL] using HW
  refine Fw.region ?_
  refine Fw.s (Fw.val_move rfl) rfl ?_
  refine Fw.s (Fw.val_len Try.underlying38 rfl) rfl ?_
  refine Fw.s (Fw.val_move rfl) rfl ?_
  refine Fw.nil ?_
  refine hK5 _ _ ?_
  refine Fw.block ?_
  refine Fw.loop (fun m_ f_ W_ => ∃ (k : Nat), m_ = l.length - k ∧ k ≤ l.length ∧ WrAt W_ w.heap.size gX3 (Wr.enc (l.length : Nat) ++ Hi.encL (l.take k)) ∧ Below (w.heap.size) w W_ ∧ f_ = [(11, .int .i64 k), (10, .int .i64 l.length), (9, .slice A l.length c), (3, .pointer (some ⟨gX3, 0, none⟩))]) ⟨_, _, ⟨0, rfl, Nat.zero_le _, HW, HB, rfl⟩, (.cons rfl (.cons rfl (.cons rfl (.cons rfl .nil))))⟩ ?_
  clear HW HB
  rintro m6_ _ w3 ⟨k, hm6_, hkl, HW, HB, rfl⟩
  refine Fw.seq fun _ hK7 => ?_
  refine Fw.region ?_
  refine Fw.s2 (Fw.val_bin rfl rfl Fw.b_lss) rfl ?_ ?_
  · rintro hk
    refine Fw.nil ?_
    refine hK7 _ _ ?_
    refine Fw.seq fun _ hK9 => ?_
    refine Fw.condT rfl ?_
    refine Fw.skip ?_
    refine hK9 _ _ ?_
    refine Fw.seq fun _ hK10 => ?_
    refine Fw.block ?_
    refine Fw.seq fun _ hK11 => ?_
    have hkn : k < l.length := by omega
    have hkok := hok l[k] (List.getElem_mem hkn)
    have hq0 := Hi.encL_len (l.take k) (fun v hv => hok v (List.mem_of_mem_take hv))
    have hq1 := Wr.enc_len (n := l[k].t) hkok.1
    have hq2 := Wr.enc_len (n := l[k].e) hkok.2.1
    have hq3 := Wr.enc_len (Hi.i64w l[k].b)
    have hq4 := Wr.enc_len (Hi.i64w l[k].d)
    have hq5 := Wr.enc_len (Hi.i64w l[k].s)
    have hq6 : (l.take k).length ≤ k := by rw [List.length_take]; omega
    refine Fw.region ?_
    obtain ⟨ad, b, o, hA, hadd, HE⟩ := Fw.rdAt Hi.cells_len (by decide) (h.low HB) k hkn
    refine Fw.s (Fw.val_indexR Try.underlying38 sz30 rfl hA rfl rfl hkn hadd) rfl ?_
    refine Fw.ldA ag30 rfl (HE) rfl rfl ?_
    refine Fw.alloc ze30 rfl ?_
    intro w4 gX5 egX5 HX5 hb
    have lgX5 : w.heap.size ≤ gX5 := by have := HB.size; omega
    clear HE
    replace HW := HW.low hb
    replace HB := HB.trans (hb.mono HB.size)
    clear hb
    clear egX5
    refine Fw.storeW sz30 rfl rfl HX5 rfl rfl (by exact Fw.oneCells rfl) ?_
    intro w5 N_ hc
    replace HW := HW.far hc HX5 (by decide) (by decide)
    replace HB := HB.trans (hc.below (B := w.heap.size) (fun k e => by omega) HB.size)
    clear hc
    clear HX5
    have HX5 := N_
    clear N_
    refine Fw.nil ?_
    refine hK11 _ _ ?_
    refine Fw.seq fun _ hK13 => ?_
    refine Fw.region ?_
    refine Fw.s (Fw.val_fieldAddr fl30_0 rfl rfl) rfl ?_
    refine Fw.ld sc2 rfl (HX5.cell 0) rfl ?_
    refine Fw.call cf36 rfl rfl (writerInt_kp _ w.heap.size gX3 ((Wr.enc (l.length : Nat) ++ Hi.encL (l.take k))) (l[k].t) HW hkok.1 (by simp only [List.length_append, List.length_nil]; omega)) ?_
    rintro e_ w6 ⟨rfl, HW_, hbb, hkp⟩
    refine ⟨_, rfl, ?_⟩
    replace HX5 := HX5.kp hkp rfl
    replace HB := HB.trans hbb
    clear HW hkp hbb
    have HW := HW_
    clear HW_
    refine Fw.nil ?_
    refine hK13 _ _ ?_
    refine Fw.seq fun _ hK14 => ?_
    refine Fw.region ?_
    refine Fw.s (Fw.val_fieldAddr fl30_1 rfl rfl) rfl ?_
    refine Fw.ld sc2 rfl (HX5.cell 1) rfl ?_
    refine Fw.call cf36 rfl rfl (writerInt_kp _ w.heap.size gX3 (((Wr.enc (l.length : Nat) ++ Hi.encL (l.take k)) ++ Wr.enc (l[k].t))) (l[k].e) HW hkok.2.1 (by simp only [List.length_append, List.length_nil]; omega)) ?_
    rintro e_ w7 ⟨rfl, HW_, hbb, hkp⟩
    refine ⟨_, rfl, ?_⟩
    replace HX5 := HX5.kp hkp rfl
    replace HB := HB.trans hbb
    clear HW hkp hbb
    have HW := HW_
    clear HW_
    refine Fw.nil ?_
    refine hK14 _ _ (Fw.FC.sub (f' := [(5, _), (11, _), (10, _), (9, _), (3, _)]) (.cons rfl (.cons rfl (.cons rfl (.cons rfl (.cons rfl .nil))))) ?_)
    refine Fw.seq fun _ hK15 => ?_
    refine Fw.region ?_
    refine Fw.s (Fw.val_fieldAddr fl30_2 rfl rfl) rfl ?_
    refine Fw.ld sc28 rfl (HX5.cell 2) rfl ?_
    refine Fw.s (Fw.val_conv Try.underlying28 Try.underlying2 rfl (rfl)) rfl ?_
    refine Fw.call cf36 rfl rfl (writerInt_kp _ w.heap.size gX3 ((((Wr.enc (l.length : Nat) ++ Hi.encL (l.take k)) ++ Wr.enc (l[k].t)) ++ Wr.enc (l[k].e))) (IntKind.i64.wrap l[k].b) HW (Hi.i64w _) (by simp only [List.length_append, List.length_nil]; omega)) ?_
    rintro e_ w8 ⟨rfl, HW_, hbb, hkp⟩
    refine ⟨_, rfl, ?_⟩
    replace HX5 := HX5.kp hkp rfl
    replace HB := HB.trans hbb
    clear HW hkp hbb
    have HW := HW_
    clear HW_
    refine Fw.nil ?_
    refine hK15 _ _ ?_
    refine Fw.seq fun _ hK16 => ?_
    refine Fw.region ?_
    refine Fw.s (Fw.val_fieldAddr fl30_3 rfl rfl) rfl ?_
    refine Fw.ld sc28 rfl (HX5.cell 3) rfl ?_
    refine Fw.s (Fw.val_conv Try.underlying28 Try.underlying2 rfl (rfl)) rfl ?_
    refine Fw.call cf36 rfl rfl (writerInt_kp _ w.heap.size gX3 (((((Wr.enc (l.length : Nat) ++ Hi.encL (l.take k)) ++ Wr.enc (l[k].t)) ++ Wr.enc (l[k].e)) ++ Wr.enc (IntKind.i64.wrap l[k].b))) (IntKind.i64.wrap l[k].d) HW (Hi.i64w _) (by simp only [List.length_append, List.length_nil]; omega)) ?_
    rintro e_ w9 ⟨rfl, HW_, hbb, hkp⟩
    refine ⟨_, rfl, ?_⟩
    replace HX5 := HX5.kp hkp rfl
    replace HB := HB.trans hbb
    clear HW hkp hbb
    have HW := HW_
    clear HW_
    refine Fw.nil ?_
    refine hK16 _ _ (Fw.FC.sub (f' := [(5, _), (11, _), (10, _), (9, _), (3, _)]) (.cons rfl (.cons rfl (.cons rfl (.cons rfl (.cons rfl .nil))))) ?_)
    refine Fw.region ?_
    refine Fw.s (Fw.val_fieldAddr fl30_4 rfl rfl) rfl ?_
    refine Fw.ld sc28 rfl (HX5.cell 4) rfl ?_
    refine Fw.s (Fw.val_conv Try.underlying28 Try.underlying2 rfl (rfl)) rfl ?_
    refine Fw.call cf36 rfl rfl (writerInt_kp _ w.heap.size gX3 ((((((Wr.enc (l.length : Nat) ++ Hi.encL (l.take k)) ++ Wr.enc (l[k].t)) ++ Wr.enc (l[k].e)) ++ Wr.enc (IntKind.i64.wrap l[k].b)) ++ Wr.enc (IntKind.i64.wrap l[k].d))) (IntKind.i64.wrap l[k].s) HW (Hi.i64w _) (by simp only [List.length_append, List.length_nil]; omega)) ?_
    rintro e_ w10 ⟨rfl, HW_, hbb, hkp⟩
    refine ⟨_, rfl, ?_⟩
    replace HX5 := HX5.kp hkp rfl
    replace HB := HB.trans hbb
    clear HW hkp hbb
    have HW := HW_
    clear HW_
    refine Fw.nil ?_
    refine Fw.X_blockN ?_
    refine hK10 _ _ ?_
    replace HW : WrAt w10 w.heap.size gX3 (Wr.enc (l.length : Nat) ++ Hi.encL (l.take (k + 1))) := by rw [← Hi.encL_snoc l k hkn]; simpa [Hi.recB] using HW
    refine Fw.region ?_
    refine Fw.s (Fw.val_bin rfl rfl (Fw.b_add (Fw.i64_ok (by omega)))) rfl ?_
    refine Fw.s (Fw.val_move rfl) rfl ?_
    refine Fw.nil ?_
    refine Fw.roundEnd _ _ (by omega) ⟨k + 1, rfl, hkn, HW, HB, rfl⟩ (.cons rfl (.cons rfl (.cons rfl (.cons rfl .nil))))
  · rintro hk
    refine Fw.nil ?_
    refine hK7 _ _ ?_
    refine Fw.seq fun _ hK17 => ?_
    refine Fw.condF rfl ?_
    refine Fw.exit ?_
    refine Fw.X_exit ?_
    refine Fw.X_exit ?_
    refine Fw.X_block ?_
    refine hK4 _ _ ?_
    refine Fw.seq fun _ hK18 => ?_
    have hq := Hi.encL_len l hok
    obtain rfl : k = l.length := by omega
    replace HW : WrAt w3 w.heap.size gX3 (Hi.encB l) := by rw [List.take_length] at HW; exact HW
    have hq7 : (Hi.encB l).length ≤ 510000 := by unfold Hi.encB; rw [List.length_append]; omega
    refine Fw.region ?_
    have HB0 := HB
    refine Fw.call cf37 rfl rfl (encoded_any _ w.heap.size gX3 (Hi.encB l) HW (by omega)) ?_
    rintro e_ w11 ⟨A9, c9, rfl, HN, hb⟩
    refine ⟨_, rfl, ?_⟩
    replace HW := HW.low hb
    replace HB := HB.trans (hb.mono HB.size)
    clear hb
    refine Fw.s (Fw.val_assign rfl) rfl ?_
    refine Fw.nil ?_
    refine hK18 _ _ ?_
    refine Fw.ret ?_
    refine Fw.ret_ [.tmp 2] [_] Try.results25 (.tmp rfl .nil) ?_
    exact ⟨_, _, rfl, own_base HN HB0.size, HB⟩

set_option maxRecDepth 100000 in
theorem decode_enc (w : World) (A : Option Addr) (l : List Hi.V) (c : Nat) (h : Rd w A ((Hi.encB l).map (.int .u8))) (hl : l.length ≤ 10000) (hok : ∀ v ∈ l, v.ok) :
    Calls Try.prog 24 #[.slice A (Hi.encB l).length c] w fun e w' => ∃ A' c', e = .returned (.tuple #[.slice A' l.length c', .int .i64 0]) ∧ w'.ownsRow w.heap.size 30 5 (.slice A' l.length c') l.length (Hi.vals l) ∧ Below w.heap.size w w' := by
  have hI0 : Wr.I64 (l.length : Nat) := ⟨by omega, by omega⟩
  have hL0 := Wr.enc_len hI0
  have hq := Hi.encL_len l hok
  have hq7 : (Hi.encB l).length ≤ 510000 := by unfold Hi.encB; rw [List.length_append]; omega
  have hge : l.length ≤ (Hi.encB l).length := by
    have key : ∀ l : List Hi.V, l.length ≤ (Hi.encL l).length := by
      intro l
      induction l with
      | nil => simp
      | cons v l ih => have := Wr.enc_pos v.t; simp only [Hi.encL, List.flatMap_cons, Hi.recB, List.length_append, List.length_cons] at ih ⊢; omega
    have := key l
    unfold Hi.encB; rw [List.length_append]; omega
  refine Fw.calls Try.func24 rfl Try.ntmps24 rfl ?_
  have HB := Below.refl (w.heap.size) w
  refine Fw.seq fun _ hK1 => ?_
  refine Fw.region ?_
  refine Fw.s (Fw.val_assign rfl) rfl ?_
  refine Fw.s (Fw.val_assign rfl) rfl ?_
  refine Fw.nil ?_
  refine hK1 _ _ ?_
  refine Fw.seq fun _ hK2 => ?_
  refine Fw.region ?_
  refine Fw.s (Fw.val_move rfl) rfl ?_
  refine Fw.call cf33 rfl rfl (newReader_any _ A (Hi.encB l) c h (by omega)) ?_
  rintro e_ w1 ⟨p, rfl, hp, HR, hb⟩
  refine ⟨_, rfl, ?_⟩
  have lp : w.heap.size ≤ p := by have := HB.size; omega
  replace HB := HB.trans (hb.mono HB.size)
  clear hb
  replace HR : RdAt w1 p ⟨Wr.enc (l.length : Nat) ++ Hi.encL l, 0⟩ := HR
  refine Fw.s (Fw.val_assign rfl) rfl ?_
  refine Fw.nil ?_
  refine hK2 _ _ ?_
  refine Fw.seq fun _ hK3 => ?_
  refine Fw.region ?_
  refine Fw.s (Fw.val_move rfl) rfl ?_
  refine Fw.call cf34 rfl rfl (readEnc_any _ p ((l.length : Nat)) (Hi.encL l) HR hI0 (Hi.encL_bts l)) ?_
  rintro e_ w2 ⟨rfl, HR_, hc⟩
  refine ⟨_, rfl, ?_⟩
  replace HB := HB.trans (hc.below (B := w.heap.size) (fun k e => by omega) HB.size)
  clear hc
  clear HR
  have HR := HR_
  clear HR_
  refine Fw.s (Fw.val_assign rfl) rfl ?_
  refine Fw.nil ?_
  refine hK3 _ _ ?_
  refine Fw.seq fun _ hK4 => ?_
  refine Fw.seq fun _ hK5 => ?_
  refine Fw.region ?_
  refine Fw.s (Fw.val_move rfl) rfl ?_
  refine Fw.s (Fw.Val.F (Fw.val_bin rfl rfl Fw.b_lss) (by omega)) rfl ?_
  refine Fw.nil ?_
  refine hK5 _ _ (Fw.FC.sub (f' := [(14, _), (5, _), (4, _), (0, _)]) (.cons rfl (.cons rfl (.cons rfl (.cons rfl .nil)))) ?_)
  refine Fw.condF rfl ?_
  refine Fw.skip ?_
  refine hK4 _ _ ?_
  refine Fw.seq fun _ hK6 => ?_
  refine Fw.seq fun _ hK7 => ?_
  refine Fw.region ?_
  refine Fw.s (Fw.val_move rfl) rfl ?_
  refine Fw.s (Fw.val_move rfl) rfl ?_
  refine Fw.s (Fw.val_len Try.underlying59 rfl) rfl ?_
  refine Fw.s (Fw.Val.F (Fw.val_bin rfl rfl Fw.b_gtr) (by omega)) rfl ?_
  refine Fw.nil ?_
  refine hK7 _ _ ?_
  refine Fw.condF rfl ?_
  refine Fw.skip ?_
  refine hK6 _ _ ?_
  refine Fw.seq fun _ hK8 => ?_
  refine Fw.region ?_
  refine Fw.s (Fw.val_assign rfl) rfl ?_
  refine Fw.nil ?_
  refine hK8 _ _ ?_
  refine Fw.seq fun _ hK9 => ?_
  refine Fw.seq fun _ hK10 => ?_
  refine Fw.region ?_
  refine Fw.s (Fw.val_move rfl) rfl ?_
  refine Fw.s (Fw.val_move rfl) rfl ?_
  refine Fw.nil ?_
  refine hK10 _ _ (Fw.FC.sub (f' := [(20, _), (19, _), (6, _), (4, _)]) (.cons rfl (.cons rfl (.cons rfl (.cons rfl .nil)))) ?_)
  refine Fw.block ?_
  have HO : w2.ownsRow w.heap.size 30 5 (.slice none 0 0) 0 (Hi.vals (l.take 0)) := ⟨rfl, .inl ⟨rfl, rfl⟩⟩
  replace HR : RdAt w2 p ⟨Hi.encL (l.drop 0), 0⟩ := HR
  refine Fw.loop (fun m_ f_ W_ => ∃ (k : Nat) (A_ : Option Addr) (c_ : Nat), m_ = l.length - k ∧ k ≤ l.length ∧ RdAt W_ p ⟨Hi.encL (l.drop k), 0⟩ ∧ W_.ownsRow w.heap.size 30 5 (.slice A_ k c_) k (Hi.vals (l.take k)) ∧ Below (w.heap.size) w W_ ∧ f_ = [(20, .int .i64 k), (19, .int .i64 l.length), (6, .slice A_ k c_), (4, .pointer (some ⟨p, 0, none⟩))]) ⟨_, _, ⟨0, none, 0, rfl, Nat.zero_le _, HR, HO, HB, rfl⟩, (.cons rfl (.cons rfl (.cons rfl (.cons rfl .nil))))⟩ ?_
  clear HR HO HB
  rintro m11_ _ w3 ⟨k, A_, c_, hm11_, hkl, HR, HO, HB, rfl⟩
  refine Fw.seq fun _ hK12 => ?_
  refine Fw.region ?_
  refine Fw.s2 (Fw.val_bin rfl rfl Fw.b_lss) rfl ?_ ?_
  · rintro hk
    refine Fw.nil ?_
    refine hK12 _ _ ?_
    refine Fw.seq fun _ hK14 => ?_
    refine Fw.condT rfl ?_
    refine Fw.skip ?_
    refine hK14 _ _ ?_
    refine Fw.seq fun _ hK15 => ?_
    refine Fw.block ?_
    refine Fw.seq fun _ hK16 => ?_
    have hkn : k < l.length := by omega
    have hkok := hok l[k] (List.getElem_mem hkn)
    have hbt4 : Wr.Bts (Hi.encL (l.drop (k + 1))) := Hi.encL_bts _
    have hbt3 : Wr.Bts (Wr.enc (IntKind.i64.wrap l[k].s) ++ (Hi.encL (l.drop (k + 1)))) := fun x hx => by rcases List.mem_append.1 hx with h | h; exact Wr.enc_bts _ x h; exact hbt4 x h
    have hbt2 : Wr.Bts (Wr.enc (IntKind.i64.wrap l[k].d) ++ (Wr.enc (IntKind.i64.wrap l[k].s) ++ (Hi.encL (l.drop (k + 1))))) := fun x hx => by rcases List.mem_append.1 hx with h | h; exact Wr.enc_bts _ x h; exact hbt3 x h
    have hbt1 : Wr.Bts (Wr.enc (IntKind.i64.wrap l[k].b) ++ (Wr.enc (IntKind.i64.wrap l[k].d) ++ (Wr.enc (IntKind.i64.wrap l[k].s) ++ (Hi.encL (l.drop (k + 1)))))) := fun x hx => by rcases List.mem_append.1 hx with h | h; exact Wr.enc_bts _ x h; exact hbt2 x h
    have hbt0 : Wr.Bts (Wr.enc (l[k].e) ++ (Wr.enc (IntKind.i64.wrap l[k].b) ++ (Wr.enc (IntKind.i64.wrap l[k].d) ++ (Wr.enc (IntKind.i64.wrap l[k].s) ++ (Hi.encL (l.drop (k + 1))))))) := fun x hx => by rcases List.mem_append.1 hx with h | h; exact Wr.enc_bts _ x h; exact hbt1 x h
    replace HR : RdAt w3 p ⟨Wr.enc (l[k].t) ++ (Wr.enc (l[k].e) ++ (Wr.enc (IntKind.i64.wrap l[k].b) ++ (Wr.enc (IntKind.i64.wrap l[k].d) ++ (Wr.enc (IntKind.i64.wrap l[k].s) ++ (Hi.encL (l.drop (k + 1))))))), 0⟩ := by rw [Hi.encL_drop l k hkn] at HR; simpa [Hi.recB] using HR
    refine Fw.region ?_
    refine Fw.alloc ze30 rfl ?_
    intro w4 gX7 egX7 HX7 hb
    have hni := own_fresh HO egX7
    have n_p_gX7 : p < gX7 := by have := HR.lt; omega
    have lgX7 : w.heap.size ≤ gX7 := by have := HB.size; omega
    replace HR := HR.low hb
    replace HO := own_below HO hb (Nat.le_refl _)
    replace HB := HB.trans (hb.mono HB.size)
    clear hb
    clear egX7
    refine Fw.nil ?_
    refine hK16 _ _ ?_
    refine Fw.seq fun _ hK17 => ?_
    refine Fw.region ?_
    refine Fw.s (Fw.val_move rfl) rfl ?_
    refine Fw.call cf34 rfl rfl (readEnc_any _ p (l[k].t) (Wr.enc (l[k].e) ++ (Wr.enc (IntKind.i64.wrap l[k].b) ++ (Wr.enc (IntKind.i64.wrap l[k].d) ++ (Wr.enc (IntKind.i64.wrap l[k].s) ++ (Hi.encL (l.drop (k + 1))))))) HR hkok.1 hbt0) ?_
    rintro e_ w5 ⟨rfl, HR_, hc⟩
    refine ⟨_, rfl, ?_⟩
    replace HO := own_to HO hc (fun g_ h_ e_ => HR.own_ne HO (by decide) (by rw [h_, e_]))
    replace HX7 := HX7.chg hc (by omega)
    replace HB := HB.trans (hc.below (B := w.heap.size) (fun k e => by omega) HB.size)
    clear hc
    clear HR
    have HR := HR_
    clear HR_
    refine Fw.s (Fw.val_fieldAddr fl30_0 rfl rfl) rfl ?_
    refine Fw.store sz2 rfl rfl HX7 rfl rfl rfl ?_
    intro w6 N_ hc
    replace HR := HR.kp ((Fw.Kp.refl [30] _).one hc HX7 rfl) rfl rfl
    replace HO := own_to HO hc (fun g_ h_ e_ => hni (by rw [h_, e_]))
    replace HB := HB.trans (hc.below (B := w.heap.size) (fun k e => by omega) HB.size)
    clear hc
    clear HX7
    have HX7 := N_
    clear N_
    replace HX7 : Blk w6 gX7 30 #[.int .i64 l[k].t, .int .i64 0, .int .u64 0, .int .u64 0, .int .u64 0] := HX7
    refine Fw.nil ?_
    refine hK17 _ _ ?_
    refine Fw.seq fun _ hK18 => ?_
    refine Fw.region ?_
    refine Fw.s (Fw.val_move rfl) rfl ?_
    refine Fw.call cf34 rfl rfl (readEnc_any _ p (l[k].e) (Wr.enc (IntKind.i64.wrap l[k].b) ++ (Wr.enc (IntKind.i64.wrap l[k].d) ++ (Wr.enc (IntKind.i64.wrap l[k].s) ++ (Hi.encL (l.drop (k + 1)))))) HR hkok.2.1 hbt1) ?_
    rintro e_ w7 ⟨rfl, HR_, hc⟩
    refine ⟨_, rfl, ?_⟩
    replace HO := own_to HO hc (fun g_ h_ e_ => HR.own_ne HO (by decide) (by rw [h_, e_]))
    replace HX7 := HX7.chg hc (by omega)
    replace HB := HB.trans (hc.below (B := w.heap.size) (fun k e => by omega) HB.size)
    clear hc
    clear HR
    have HR := HR_
    clear HR_
    refine Fw.s (Fw.val_fieldAddr fl30_1 rfl rfl) rfl ?_
    refine Fw.store sz2 rfl rfl HX7 rfl rfl rfl ?_
    intro w8 N_ hc
    replace HR := HR.kp ((Fw.Kp.refl [30] _).one hc HX7 rfl) rfl rfl
    replace HO := own_to HO hc (fun g_ h_ e_ => hni (by rw [h_, e_]))
    replace HB := HB.trans (hc.below (B := w.heap.size) (fun k e => by omega) HB.size)
    clear hc
    clear HX7
    have HX7 := N_
    clear N_
    replace HX7 : Blk w8 gX7 30 #[.int .i64 l[k].t, .int .i64 l[k].e, .int .u64 0, .int .u64 0, .int .u64 0] := HX7
    refine Fw.nil ?_
    refine hK18 _ _ (Fw.FC.sub (f' := [(7, _), (20, _), (19, _), (6, _), (4, _)]) (.cons rfl (.cons rfl (.cons rfl (.cons rfl (.cons rfl .nil))))) ?_)
    refine Fw.seq fun _ hK19 => ?_
    refine Fw.region ?_
    refine Fw.s (Fw.val_move rfl) rfl ?_
    refine Fw.call cf34 rfl rfl (readEnc_any _ p (IntKind.i64.wrap l[k].b) (Wr.enc (IntKind.i64.wrap l[k].d) ++ (Wr.enc (IntKind.i64.wrap l[k].s) ++ (Hi.encL (l.drop (k + 1))))) HR (Hi.i64w _) hbt2) ?_
    rintro e_ w9 ⟨rfl, HR_, hc⟩
    refine ⟨_, rfl, ?_⟩
    replace HO := own_to HO hc (fun g_ h_ e_ => HR.own_ne HO (by decide) (by rw [h_, e_]))
    replace HX7 := HX7.chg hc (by omega)
    replace HB := HB.trans (hc.below (B := w.heap.size) (fun k e => by omega) HB.size)
    clear hc
    clear HR
    have HR := HR_
    clear HR_
    refine Fw.s (Fw.val_conv Try.underlying2 Try.underlying28 rfl (Hi.wrap_back hkok.2.2.1)) rfl ?_
    refine Fw.s (Fw.val_fieldAddr fl30_2 rfl rfl) rfl ?_
    refine Fw.store sz28 rfl rfl HX7 rfl rfl rfl ?_
    intro w10 N_ hc
    replace HR := HR.kp ((Fw.Kp.refl [30] _).one hc HX7 rfl) rfl rfl
    replace HO := own_to HO hc (fun g_ h_ e_ => hni (by rw [h_, e_]))
    replace HB := HB.trans (hc.below (B := w.heap.size) (fun k e => by omega) HB.size)
    clear hc
    clear HX7
    have HX7 := N_
    clear N_
    replace HX7 : Blk w10 gX7 30 #[.int .i64 l[k].t, .int .i64 l[k].e, .int .u64 l[k].b, .int .u64 0, .int .u64 0] := HX7
    refine Fw.nil ?_
    refine hK19 _ _ ?_
    refine Fw.seq fun _ hK20 => ?_
    refine Fw.region ?_
    refine Fw.s (Fw.val_move rfl) rfl ?_
    refine Fw.call cf34 rfl rfl (readEnc_any _ p (IntKind.i64.wrap l[k].d) (Wr.enc (IntKind.i64.wrap l[k].s) ++ (Hi.encL (l.drop (k + 1)))) HR (Hi.i64w _) hbt3) ?_
    rintro e_ w11 ⟨rfl, HR_, hc⟩
    refine ⟨_, rfl, ?_⟩
    replace HO := own_to HO hc (fun g_ h_ e_ => HR.own_ne HO (by decide) (by rw [h_, e_]))
    replace HX7 := HX7.chg hc (by omega)
    replace HB := HB.trans (hc.below (B := w.heap.size) (fun k e => by omega) HB.size)
    clear hc
    clear HR
    have HR := HR_
    clear HR_
    refine Fw.s (Fw.val_conv Try.underlying2 Try.underlying28 rfl (Hi.wrap_back hkok.2.2.2.1)) rfl ?_
    refine Fw.s (Fw.val_fieldAddr fl30_3 rfl rfl) rfl ?_
    refine Fw.store sz28 rfl rfl HX7 rfl rfl rfl ?_
    intro w12 N_ hc
    replace HR := HR.kp ((Fw.Kp.refl [30] _).one hc HX7 rfl) rfl rfl
    replace HO := own_to HO hc (fun g_ h_ e_ => hni (by rw [h_, e_]))
    replace HB := HB.trans (hc.below (B := w.heap.size) (fun k e => by omega) HB.size)
    clear hc
    clear HX7
    have HX7 := N_
    clear N_
    replace HX7 : Blk w12 gX7 30 #[.int .i64 l[k].t, .int .i64 l[k].e, .int .u64 l[k].b, .int .u64 l[k].d, .int .u64 0] := HX7
    refine Fw.nil ?_
    refine hK20 _ _ (Fw.FC.sub (f' := [(7, _), (20, _), (19, _), (6, _), (4, _)]) (.cons rfl (.cons rfl (.cons rfl (.cons rfl (.cons rfl .nil))))) ?_)
    refine Fw.seq fun _ hK21 => ?_
    refine Fw.region ?_
    refine Fw.s (Fw.val_move rfl) rfl ?_
    refine Fw.call cf34 rfl rfl (readEnc_any _ p (IntKind.i64.wrap l[k].s) (Hi.encL (l.drop (k + 1))) HR (Hi.i64w _) hbt4) ?_
    rintro e_ w13 ⟨rfl, HR_, hc⟩
    refine ⟨_, rfl, ?_⟩
    replace HO := own_to HO hc (fun g_ h_ e_ => HR.own_ne HO (by decide) (by rw [h_, e_]))
    replace HX7 := HX7.chg hc (by omega)
    replace HB := HB.trans (hc.below (B := w.heap.size) (fun k e => by omega) HB.size)
    clear hc
    clear HR
    have HR := HR_
    clear HR_
    refine Fw.s (Fw.val_conv Try.underlying2 Try.underlying28 rfl (Hi.wrap_back hkok.2.2.2.2)) rfl ?_
    refine Fw.s (Fw.val_fieldAddr fl30_4 rfl rfl) rfl ?_
    refine Fw.store sz28 rfl rfl HX7 rfl rfl rfl ?_
    intro w14 N_ hc
    replace HR := HR.kp ((Fw.Kp.refl [30] _).one hc HX7 rfl) rfl rfl
    replace HO := own_to HO hc (fun g_ h_ e_ => hni (by rw [h_, e_]))
    replace HB := HB.trans (hc.below (B := w.heap.size) (fun k e => by omega) HB.size)
    clear hc
    clear HX7
    have HX7 := N_
    clear N_
    replace HX7 : Blk w14 gX7 30 #[.int .i64 l[k].t, .int .i64 l[k].e, .int .u64 l[k].b, .int .u64 l[k].d, .int .u64 l[k].s] := HX7
    refine Fw.nil ?_
    refine hK21 _ _ ?_
    refine Fw.region ?_
    refine Fw.s (Fw.val_move rfl) rfl ?_
    refine Fw.ldA ag30 rfl (Fw.rdBlk HX7) rfl rfl ?_
    refine Fw.buildSlice [_] sl38 rfl rfl (by exact Fw.allSz rfl) (by decide) rfl ?_
    intro w15 gS42 egS42 HS42 hb
    have n_p_gS42 : p < gS42 := by have := HR.lt; omega
    have n_gX7_gS42 : gX7 < gS42 := by have := HX7.lt; omega
    have lgS42 : w.heap.size ≤ gS42 := by have := HB.size; omega
    replace HR := HR.low hb
    replace HO := own_below HO hb (Nat.le_refl _)
    replace HX7 := HX7.low hb
    replace HB := HB.trans (hb.mono HB.size)
    clear hb
    clear egS42
    refine Fw.append (k + 1) (Hi.vals (l.take (k + 1))) sl38 rfl rfl HO (show Rd _ _ (Hi.V.cells l[k]) from Fw.rdBlk HS42) rfl (Fw.oneCellsL rfl) (by unfold maxLen; omega) HB.size rfl (Hi.vals_snoc l k hkn) rfl ?_
    intro A' c' w16 N_ hbb hc _
    replace HR := HR.kp ((Fw.Kp.refl [30] _).row hc HO rfl) rfl rfl
    replace HB := HB.trans hbb
    clear HO hbb hc
    have HO := N_
    clear N_
    refine Fw.s (Fw.val_assign rfl) rfl ?_
    refine Fw.nil ?_
    refine Fw.X_blockN ?_
    refine hK15 _ _ (Fw.FC.sub (f' := [(6, _), (20, _), (19, _), (4, _)]) (.cons rfl (.cons rfl (.cons rfl (.cons rfl .nil)))) ?_)
    refine Fw.region ?_
    refine Fw.s (Fw.val_bin rfl rfl (Fw.b_add (Fw.i64_ok (by omega)))) rfl ?_
    refine Fw.s (Fw.val_move rfl) rfl ?_
    refine Fw.nil ?_
    refine Fw.roundEnd _ _ (by omega) ⟨k + 1, A', c', rfl, hkn, HR, HO, HB, rfl⟩ (.cons rfl (.cons rfl (.cons rfl (.cons rfl .nil))))
  · rintro hk
    refine Fw.nil ?_
    refine hK12 _ _ ?_
    refine Fw.seq fun _ hK22 => ?_
    refine Fw.condF rfl ?_
    refine Fw.exit ?_
    refine Fw.X_exit ?_
    refine Fw.X_exit ?_
    refine Fw.X_block ?_
    refine hK9 _ _ ?_
    refine Fw.seq fun _ hK23 => ?_
    refine Fw.seq fun _ hK24 => ?_
    obtain rfl : k = l.length := by omega
    rw [List.take_length] at HO
    replace HR : RdAt w3 p ⟨[], 0⟩ := by rw [List.drop_length] at HR; exact HR
    refine Fw.region ?_
    refine Fw.s (Fw.val_move rfl) rfl ?_
    refine Fw.call cf35 rfl rfl (finish_any _ p _ HR) ?_
    rintro e_ _ ⟨rfl, rfl⟩
    refine ⟨_, rfl, ?_⟩
    refine Fw.s (Fw.val_assign rfl) rfl ?_
    refine Fw.nil ?_
    refine hK24 _ _ ?_
    refine Fw.seq fun _ hK25 => ?_
    refine Fw.region ?_
    refine Fw.s (Fw.val_move rfl) rfl ?_
    refine Fw.s (Fw.Val.F (Fw.val_bin rfl rfl Fw.b_neq) (by simp [Wr.fin])) rfl ?_
    refine Fw.nil ?_
    refine hK25 _ _ (Fw.FC.sub (f' := [(48, _), (8, _), (6, _)]) (.cons rfl (.cons rfl (.cons rfl .nil))) ?_)
    refine Fw.condF rfl ?_
    refine Fw.skip ?_
    refine hK23 _ _ ?_
    refine Fw.seq fun _ hK26 => ?_
    refine Fw.region ?_
    refine Fw.s (Fw.val_move rfl) rfl ?_
    refine Fw.s (Fw.val_assign rfl) rfl ?_
    refine Fw.s (Fw.val_assign rfl) rfl ?_
    refine Fw.nil ?_
    refine hK26 _ _ ?_
    refine Fw.ret ?_
    refine Fw.ret_ [.tmp 2, .tmp 3] [_, _] Try.results24 (.tmp rfl (.tmp rfl .nil)) ?_
    exact ⟨_, _, rfl, HO, HB⟩
end Go.Proofs.Ytgmhcfhmpjpomaa
