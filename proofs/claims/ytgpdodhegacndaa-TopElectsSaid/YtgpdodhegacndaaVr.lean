/- TopElects: a voter's journal, what it owns, and what it says. -/
import Derived.Test.YtgpdodhegacndaaKrY
namespace Go.Proofs.Ytgpdodhegacndaa
set_option linter.unusedSimpArgs false
set_option linter.unusedVariables false
open Go.RowKit
namespace Vr
/-- whose a block is: what is new belongs to i -/
def up (o : Nat → Nat) (n i : Nat) : Nat → Nat := fun k => if k < n then o k else i
theorem up_lt {o : Nat → Nat} {n i k : Nat} (h : k < n) : up o n i k = o k := if_pos h
theorem up_ge {o : Nat → Nat} {n i k : Nat} (h : n ≤ k) : up o n i k = i := if_neg (by omega)
theorem up_up {o : Nat → Nat} {n m i : Nat} (h : n ≤ m) : up (up o n i) m i = up o n i := by
  funext k
  unfold up
  by_cases h1 : k < n
  · rw [if_pos h1, if_pos (by omega)]
  · rw [if_neg h1]; split <;> rfl
def rec1 (v : Int × Int) : Jr.R := ⟨86, Wr.enc v.1 ++ Wr.enc v.2⟩
def recs (V : List (Int × Int)) : List Jr.R := V.map rec1
def term (V : List (Int × Int)) : Int := (V.getLast?.map (·.1)).getD 0
def voted (V : List (Int × Int)) : Int := (V.getLast?.map (·.2)).getD (-1)
/-- votes that a voter keeps: their terms rise -/
def Good (V : List (Int × Int)) : Prop := V.Pairwise (fun a b => a.1 < b.1) ∧ ∀ v ∈ V, (1 ≤ v.1 ∧ v.1 ≤ 4) ∧ (0 ≤ v.2 ∧ v.2 ≤ 2)
/-- the bytes of the file -/
def D (V : List (Int × Int)) : List Int := Jr.encs Jr.s0 (recs V)
theorem term_nil : term [] = 0 := rfl
theorem voted_nil : voted [] = -1 := rfl
theorem term_snoc (V : List (Int × Int)) (v : Int × Int) : term (V ++ [v]) = v.1 := by simp [term]
theorem voted_snoc (V : List (Int × Int)) (v : Int × Int) : voted (V ++ [v]) = v.2 := by simp [voted]
theorem recs_snoc (V : List (Int × Int)) (v : Int × Int) : recs (V ++ [v]) = recs V ++ [rec1 v] := by simp [recs]
theorem recs_len (V : List (Int × Int)) : (recs V).length = V.length := by simp [recs]
theorem rise_len : ∀ (V : List (Int × Int)) (lo : Int), V.Pairwise (fun a b => a.1 < b.1) → (∀ v ∈ V, lo ≤ v.1 ∧ v.1 ≤ 4) → V ≠ [] → (V.length : Int) ≤ 4 - lo + 1
  | [], _, _, _, h => absurd rfl h
  | v :: V, lo, hp, hv, _ => by
    have h1 := List.pairwise_cons.1 hp
    have h2 := hv v (List.mem_cons_self ..)
    by_cases he : V = []
    · subst he; simp; omega
    · have := rise_len V (v.1 + 1) h1.2 (fun u hu => ⟨by have := h1.1 u hu; omega, (hv u (List.mem_cons_of_mem _ hu)).2⟩) he
      simp only [List.length_cons]
      omega
theorem Good.len {V : List (Int × Int)} (h : Good V) : V.length ≤ 4 := by
  by_cases he : V = []
  · subst he; simp
  · have := rise_len V 1 h.1 (fun v hv => (h.2 v hv).1) he
    omega
theorem Good.take {V : List (Int × Int)} (h : Good V) (k : Nat) : Good (V.take k) := ⟨h.1.sublist (List.take_sublist ..), fun v hv => h.2 v (List.mem_of_mem_take hv)⟩
theorem Good.mem_last {V : List (Int × Int)} (h : Good V) : V = [] ∨ ∃ U v, V = U ++ [v] ∧ term V = v.1 ∧ voted V = v.2 ∧ ((1 ≤ v.1 ∧ v.1 ≤ 4) ∧ (0 ≤ v.2 ∧ v.2 ≤ 2)) := by
  rcases List.eq_nil_or_concat V with e | ⟨U, v, e⟩
  · exact .inl e
  · rw [List.concat_eq_append] at e
    subst e
    exact .inr ⟨U, v, rfl, term_snoc _ _, voted_snoc _ _, h.2 v (by simp)⟩
theorem Good.bounds {V : List (Int × Int)} (h : Good V) : (0 ≤ term V ∧ term V ≤ 4) ∧ (-1 ≤ voted V ∧ voted V ≤ 2) ∧ (voted V < 0 → term V = 0) ∧ (0 ≤ voted V → 1 ≤ term V ∧ (term V, voted V) ∈ V) := by
  rcases h.mem_last with rfl | ⟨U, v, e, e1, e2, h3⟩
  · rw [term_nil, voted_nil]; refine ⟨by omega, by omega, by omega, by omega⟩
  · rw [e1, e2]; refine ⟨by omega, by omega, by omega, fun _ => ⟨by omega, by rw [e]; simp⟩⟩
theorem Good.snoc {V : List (Int × Int)} (h : Good V) {t n : Int} (ht : 1 ≤ t ∧ t ≤ 4) (hn : 0 ≤ n ∧ n ≤ 2) (hl : term V < t) : Good (V ++ [(t, n)]) := by
  refine ⟨List.pairwise_append.2 ⟨h.1, List.pairwise_singleton _ _, fun a ha b hb => ?_⟩, fun v hv => ?_⟩
  · rw [List.mem_singleton.1 hb]
    rcases h.mem_last with rfl | ⟨U, v, e, e1, _, _⟩
    · cases ha
    · rw [e] at ha
      have hp := h.1
      rw [e] at hp
      rw [e1] at hl
      rcases List.mem_append.1 ha with h1 | h1
      · have := (List.pairwise_append.1 hp).2.2 a h1 v (by simp); show a.1 < t; omega
      · rw [List.mem_singleton.1 h1]; exact hl
  · rcases List.mem_append.1 hv with h1 | h1
    · exact h.2 v h1
    · rw [List.mem_singleton.1 h1]; exact ⟨ht, hn⟩
/-- one vote in a term -/
theorem Good.one {V : List (Int × Int)} (h : Good V) {t n m : Int} (h1 : (t, n) ∈ V) (h2 : (t, m) ∈ V) : n = m := by
  obtain ⟨i, hi, e1⟩ := List.getElem_of_mem h1
  obtain ⟨j, hj, e2⟩ := List.getElem_of_mem h2
  have hp := List.pairwise_iff_getElem.1 h.1
  rcases Nat.lt_trichotomy i j with hij | hij | hij
  · have := hp i j hi hj hij; rw [e1, e2] at this; simp at this
  · subst hij; rw [e1] at e2; injection e2
  · have := hp j i hj hi hij; rw [e1, e2] at this; simp at this
theorem i64 {x : Int} (h : 0 ≤ x ∧ x ≤ 4) : Wr.I64 x := ⟨by omega, by omega⟩
theorem rec1_len {v : Int × Int} (h : (1 ≤ v.1 ∧ v.1 ≤ 4) ∧ (0 ≤ v.2 ∧ v.2 ≤ 2)) : (rec1 v).b.length ≤ 20 := by
  have h1 := Wr.enc_len (i64 (x := v.1) (by omega))
  have h2 := Wr.enc_len (i64 (x := v.2) (by omega))
  show (Wr.enc v.1 ++ Wr.enc v.2).length ≤ 20
  rw [List.length_append]; omega
theorem rec1_ok (v : Int × Int) : (rec1 v).ok := ⟨⟨by show (0 : Int) ≤ 86; decide, by show (86 : Int) < 256; decide⟩, fun x hx => by
  rcases List.mem_append.1 hx with h | h
  · exact Wr.enc_bts _ x h
  · exact Wr.enc_bts _ x h⟩
theorem recs_ok {V : List (Int × Int)} (h : Good V) : ∀ r ∈ recs V, r.ok ∧ r.b.length ≤ 20 := fun r hr => by
  obtain ⟨v, hv, rfl⟩ := List.mem_map.1 hr
  exact ⟨rec1_ok v, rec1_len (h.2 v hv)⟩
theorem encs_len : ∀ (l : List Jr.R) (s : Int), (∀ r ∈ l, r.b.length ≤ 20) → (Jr.encs s l).length ≤ 39 * l.length
  | [], _, _ => by simp [Jr.encs]
  | r :: l, s, h => by
    have h1 := h r (List.mem_cons_self ..)
    have h2 := encs_len l (Jr.next s r) (fun x hx => h x (List.mem_cons_of_mem _ hx))
    have h3 := Jr.one_len s r
    have h4 := Wr.enc_len (n := (r.b.length : Nat)) ⟨by omega, by omega⟩
    show (Jr.one s r ++ Jr.encs (Jr.next s r) l).length ≤ _
    rw [List.length_append, List.length_cons]; omega
theorem D_len {V : List (Int × Int)} (h : Good V) : (D V).length ≤ 156 := by
  have := encs_len (recs V) Jr.s0 (fun r hr => (recs_ok h r hr).2)
  rw [recs_len] at this
  have := h.len
  unfold D; omega
theorem encs_bts : ∀ (l : List Jr.R) (s : Int), (∀ r ∈ l, r.ok) → Ck.Bts (Jr.encs s l)
  | [], _, _ => fun x hx => by cases hx
  | r :: l, s, h => fun x hx => by
    have hr := h r (List.mem_cons_self ..)
    rcases List.mem_append.1 (show x ∈ Jr.one s r ++ Jr.encs (Jr.next s r) l from hx) with h1 | h1
    · rcases List.mem_append.1 (show x ∈ Wr.enc (r.b.length : Nat) ++ (r.k :: (r.b ++ Ck.bytesI (Jr.next s r))) from h1) with h2 | h2
      · exact Wr.enc_bts _ x h2
      · rcases List.mem_cons.1 h2 with h3 | h3
        · subst h3; exact hr.1
        · rcases List.mem_append.1 h3 with h4 | h4
          · exact hr.2 x h4
          · exact Ck.bytesI_bts _ x h4
    · exact encs_bts l _ (fun y hy => h y (List.mem_cons_of_mem _ hy)) x h1
theorem D_bts {V : List (Int × Int)} (h : Good V) : Ck.Bts (D V) := encs_bts _ _ (fun r hr => (recs_ok h r hr).1)
theorem D_snoc (V : List (Int × Int)) (v : Int × Int) : D (V ++ [v]) = D V ++ Jr.one (Jr.sealF Jr.s0 (recs V)) (rec1 v) := by unfold D; rw [recs_snoc, Jr.encs_snoc]
theorem D_val {V : List (Int × Int)} (h : Good V) : Jr.Val Jr.s0 (D V) (recs V) (D V).length :=
  ⟨Nat.le_refl _, by rw [List.take_length]; rfl, fun r hr => ⟨(recs_ok h r hr).1, by have := (recs_ok h r hr).2; omega⟩, by rw [List.drop_length]; rfl⟩
end Vr
theorem own_lt {w : World} {B p pf : Nat} {g : Option Nat} {t : St.T} {L : List Rv} (h : JAt w B p pf g t L) {k : Nat} (hk : Jr.Own w p pf g k) : k < w.heap.size := by
  obtain ⟨h0, hf, A1, c1, A2, c2, h1, h2, h3⟩ := h
  rcases hk with e | e | e | ⟨cs, hb, v, hv, e⟩
  · subst e; exact h1.lt
  · subst e; exact hf.lt_.1
  · exact (hf.lt_.2.2 k e.symm).1
  · unfold Blk at hb h1
    rw [h1] at hb
    injection hb with hb; injection hb with hb _ _
    subst hb
    simp only [List.mem_cons, List.not_mem_nil, or_false] at hv
    rcases hv with rfl | rfl | rfl
    · cases e
    · exact (h2.1.lt k e.symm).2
    · exact (h3.lt k e.symm).2
theorem Bod.lt {w : World} {g : Option Nat} {v : Rv} (h : Bod w g 0 v) (hv : v.b ≠ []) {ad : Addr} (e : v.A = some ad) : ad.block < w.heap.size := by
  rcases h.2 hv ad e with h1 | ⟨⟨cs, fr, h1⟩, _⟩
  · omega
  · exact heap_lt h1
/-- a journal goes over whatever turns none of its own -/
theorem JAt.keepS {w w' : World} {S : Nat → Prop} {p pf : Nat} {g : Option Nat} {t : St.T} {L : List Rv} (h : JAt w 0 p pf g t L) (hc : Chg S w w') (hO : ∀ k, Jr.Own w p pf g k → ¬ S k) (hb : ∀ v ∈ L, v.b ≠ [] → ∀ ad, v.A = some ad → ¬ S ad.block) :
    JAt w' 0 p pf g t L ∧ ∀ k, Jr.Own w' p pf g k → Jr.Own w p pf g k := by
  obtain ⟨h0, ⟨hB, A, c, hk, ho, hg⟩, A1, c1, A2, c2, h1, ⟨h2a, h2b⟩, h3⟩ := h
  have hp' := h1.chg hc (hO p (.inl rfl))
  refine ⟨⟨h0, ⟨hB, A, c, hk.chg hc (hO pf (.inr (.inl rfl))), own_to ho hc (fun g_ e => hO g_ (.inr (.inr (.inl (by rw [← hg]; exact e.symm))))), hg⟩, A1, c1, A2, c2, hp',
    ⟨own_to h2a hc (fun g_ e => hO g_ (.inr (.inr (.inr ⟨_, h1, .slice A1 L.length c1, by simp, by rw [ownBlock_slice]; exact e.symm⟩)))), fun v hv => ?_⟩,
    own_to h3 hc (fun g_ e => hO g_ (.inr (.inr (.inr ⟨_, h1, .slice A2 (Jr.sums (rs L)).length c2, by simp, by rw [ownBlock_slice]; exact e.symm⟩))))⟩, fun k hk_ => ?_⟩
  · by_cases hvb : v.b = []
    · exact ⟨by rw [hvb]; exact Rd.nil _ _, fun x => absurd hvb x⟩
    · refine ⟨(h2b v hv).1.chg hc (fun ad e => hb v hv hvb ad e), fun _ ad e => .inr ?_⟩
      rcases (h2b v hv).2 hvb ad e with h_ | ⟨⟨cs, fr, h_⟩, h2_⟩
      · omega
      · exact ⟨⟨cs, fr, by rw [hc.block _ (heap_lt h_) (hb v hv hvb ad e)]; exact h_⟩, h2_⟩
  · rcases hk_ with e | e | e | ⟨cs, hb_, v, hv, e⟩
    · exact .inl e
    · exact .inr (.inl e)
    · exact .inr (.inr (.inl e))
    · refine .inr (.inr (.inr ⟨_, h1, v, ?_, e⟩))
      unfold Blk at hb_ hp'
      rw [hp'] at hb_
      injection hb_ with hb_; injection hb_ with hb_ _ _
      subst hb_; exact hv
namespace Vr
/-- voter i's file -/
def FiS (w : World) (o : Nat → Nat) (i pf : Nat) (off : Bool) (V : List (Int × Int)) : Prop := ∃ g, FileAt w 0 pf g ⟨D V, (D V).length, off⟩ ∧ o pf = i ∧ (∀ k, g = some k → o k = i) ∧ Good V
/-- voter i's journal -/
def JS (w : World) (o : Nat → Nat) (i pf p n : Nat) (V : List (Int × Int)) : Prop := ∃ g L, JAt w 0 p pf g ⟨D V, n, false⟩ L ∧ rs L = recs V ∧ (∀ k, Jr.Own w p pf g k → o k = i) ∧ (∀ v ∈ L, v.b ≠ [] → ∀ ad, v.A = some ad → o ad.block = i) ∧ Good V
/-- voter i's record, over its journal -/
def VAt (w : World) (o : Nat → Nat) (i pf rp : Nat) (V : List (Int × Int)) : Prop := ∃ p, JS w o i pf p (D V).length V ∧ Blk w rp 71 #[.pointer (some ⟨p, 0, none⟩), .int .i64 (term V), .int .i64 (voted V)] ∧ o rp = i
theorem JS.fs {w : World} {o : Nat → Nat} {i pf p : Nat} {V : List (Int × Int)} (h : JS w o i pf p (D V).length V) : FiS w o i pf false V := by
  obtain ⟨g, L, h1, h2, h3, h4, h5⟩ := h
  exact ⟨g, h1.2.1, h3 pf (.inr (.inl rfl)), fun k e => h3 k (.inr (.inr (.inl e.symm))), h5⟩
theorem VAt.fs {w : World} {o : Nat → Nat} {i pf rp : Nat} {V : List (Int × Int)} (h : VAt w o i pf rp V) : FiS w o i pf false V := by
  obtain ⟨p, h1, _⟩ := h; exact h1.fs
theorem VAt.good {w : World} {o : Nat → Nat} {i pf rp : Nat} {V : List (Int × Int)} (h : VAt w o i pf rp V) : Good V := by
  obtain ⟨g, _, _, _, h⟩ := h.fs; exact h
theorem JS.keep {w w' : World} {S : Nat → Prop} {o : Nat → Nat} {i pf p n : Nat} {V : List (Int × Int)} (h : JS w o i pf p n V) (hc : Chg S w w') (hS : ∀ k, o k = i → ¬ S k) : JS w' o i pf p n V := by
  obtain ⟨g, L, h1, h2, h3, h4, h5⟩ := h
  obtain ⟨h6, h7⟩ := h1.keepS hc (fun k hk => hS k (h3 k hk)) (fun v hv hb ad e => hS _ (h4 v hv hb ad e))
  exact ⟨g, L, h6, h2, fun k hk => h3 k (h7 k hk), h4, h5⟩
theorem JS.own {w : World} {o o' : Nat → Nat} {i pf p n : Nat} {V : List (Int × Int)} (h : JS w o i pf p n V) (ho : ∀ k, k < w.heap.size → o' k = o k) : JS w o' i pf p n V := by
  obtain ⟨g, L, h1, h2, h3, h4, h5⟩ := h
  have hB := h1.2.2
  refine ⟨g, L, h1, h2, fun k hk => by rw [ho k (own_lt h1 hk)]; exact h3 k hk, fun v hv hb ad e => ?_, h5⟩
  obtain ⟨_, _, A1, c1, A2, c2, _, hO, _⟩ := h1
  rw [ho _ ((hO.2 v hv).lt hb e)]; exact h4 v hv hb ad e
theorem VAt.keep {w w' : World} {S : Nat → Prop} {o : Nat → Nat} {i pf rp : Nat} {V : List (Int × Int)} (h : VAt w o i pf rp V) (hc : Chg S w w') (hS : ∀ k, o k = i → ¬ S k) : VAt w' o i pf rp V := by
  obtain ⟨p, h1, h2, h3⟩ := h
  exact ⟨p, h1.keep hc hS, h2.chg hc (hS _ h3), h3⟩
theorem VAt.own {w : World} {o o' : Nat → Nat} {i pf rp : Nat} {V : List (Int × Int)} (h : VAt w o i pf rp V) (ho : ∀ k, k < w.heap.size → o' k = o k) : VAt w o' i pf rp V := by
  obtain ⟨p, h1, h2, h3⟩ := h
  exact ⟨p, h1.own ho, h2, by rw [ho _ h2.lt]; exact h3⟩
theorem FiS.keep {w w' : World} {S : Nat → Prop} {o : Nat → Nat} {i pf : Nat} {f : Bool} {V : List (Int × Int)} (h : FiS w o i pf f V) (hc : Chg S w w') (hS : ∀ k, o k = i → ¬ S k) : FiS w' o i pf f V := by
  obtain ⟨g, ⟨hB, A, c, hk, ho, hg⟩, h2, h3, h4⟩ := h
  exact ⟨g, ⟨hB, A, c, hk.chg hc (hS _ h2), own_to ho hc (fun g_ e => hS _ (h3 g_ (by rw [← hg]; exact e))), hg⟩, h2, h3, h4⟩
theorem FiS.own {w : World} {o o' : Nat → Nat} {i pf : Nat} {f : Bool} {V : List (Int × Int)} (h : FiS w o i pf f V) (ho : ∀ k, k < w.heap.size → o' k = o k) : FiS w o' i pf f V := by
  obtain ⟨g, h1, h2, h3, h4⟩ := h
  exact ⟨g, h1, by rw [ho _ h1.lt_.1]; exact h2, fun k e => by rw [ho _ (h1.lt_.2.2 k e).1]; exact h3 k e, h4⟩
theorem FiS.to {w w' : World} {o : Nat → Nat} {i pf : Nat} {g : Option Nat} {f f' : Bool} {V : List (Int × Int)} (h2 : o pf = i) (h3 : ∀ k, g = some k → o k = i) (h4 : Good V) (h1 : FileAt w 0 pf g ⟨D V, (D V).length, f⟩) (ht : FileTo w w' 0 pf g ⟨D V, (D V).length, f'⟩) :
    FiS w' (up o w.heap.size i) i pf f' V ∧ Chg (fun k => o k = i) w w' := by
  obtain ⟨g', h5, h6, h7⟩ := ht
  refine ⟨⟨g', h5, by rw [up_lt h1.lt_.1]; exact h2, fun k e => ?_, h4⟩, h6.mono fun k _ e => ?_⟩
  · rcases h7 with rfl | ⟨k', rfl, hk'⟩
    · rw [up_lt (h1.lt_.2.2 k e).1]; exact h3 k e
    · injection e with e; subst e; exact up_ge hk'
  · rcases e with rfl | e
    · exact h2
    · exact h3 k e.symm
/-- the power fails: what was synced, all of it, stays -/
theorem failV_any (w : World) (o : Nat → Nat) (i pf : Nat) (V : List (Int × Int)) (keep m : Int) (h : FiS w o i pf false V) (hk : -9223372036854775808 ≤ keep ∧ keep ≤ 9223372036854775807) :
    Calls Try.prog 10 #[.pointer (some ⟨pf, 0, none⟩), .int .i64 keep, .int .u8 m] w fun e w' => e = .returned (.tuple #[]) ∧ FiS w' (up o w.heap.size i) i pf true V ∧ Chg (fun k => o k = i) w w' := by
  obtain ⟨g, h1, h2, h3, h4⟩ := h
  have hl := D_len h4
  refine (powerFail_any w 0 pf g _ keep m h1 ⟨Nat.le_refl _, by show (D V).length ≤ _; omega⟩ hk).mono fun e w' hR => ?_
  have e1 : St.cut ⟨D V, (D V).length, false⟩ keep m = ⟨D V, (D V).length, true⟩ := by
    simp [St.cut, St.kept]
  rw [e1] at hR
  exact ⟨hR.1, FiS.to h2 h3 h4 h1 hR.2⟩
theorem onV_any (w : World) (o : Nat → Nat) (i pf : Nat) (V : List (Int × Int)) (h : FiS w o i pf true V) :
    Calls Try.prog 11 #[.pointer (some ⟨pf, 0, none⟩)] w fun e w' => e = .returned (.tuple #[]) ∧ FiS w' (up o w.heap.size i) i pf false V ∧ Chg (fun k => o k = i) w w' := by
  obtain ⟨g, h1, h2, h3, h4⟩ := h
  refine (powerOn_any w 0 pf g _ h1).mono fun e w' hR => ?_
  exact ⟨hR.1, FiS.to h2 h3 h4 h1 hR.2⟩
/-- the journal is opened -/
theorem openV_any (w : World) (o : Nat → Nat) (i pf : Nat) (V : List (Int × Int)) (h : FiS w o i pf false V) :
    Calls Try.prog 7 #[.pointer (some ⟨pf, 0, none⟩)] w fun e w' => ∃ p, e = .returned (.tuple #[.pointer (some ⟨p, 0, none⟩), .int .i64 0]) ∧ JS w' (up o w.heap.size i) i pf p (D V).length V ∧ Chg (fun k => o k = i) w w' := by
  obtain ⟨g, h1, h2, h3, h4⟩ := h
  have hl := D_len h4
  refine (openX_any w 0 pf g (D V) (D V).length h1 ⟨Nat.le_refl _, by omega⟩ (D_bts h4)).mono ?_
  rintro e w' ⟨p, g', L, n, rfl, hv, hJ, _, _, hc, hO, hbn⟩
  obtain ⟨e1, rfl⟩ := Jr.Val.eq (b := D V) hv (D_val h4)
  rw [List.take_length] at hJ
  refine ⟨p, rfl, ⟨g', L, hJ, e1, fun k hk => ?_, fun v hv_ hb ad e_ => up_ge (hbn v hv_ hb ad e_), h4⟩, hc.mono fun k _ e => ?_⟩
  · by_cases hkl : k < w.heap.size
    · rw [up_lt hkl]
      rcases hO k hk with rfl | e | e
      · exact h2
      · exact h3 k e.symm
      · omega
    · exact up_ge (by omega)
  · rcases e with rfl | e
    · exact h2
    · exact h3 k e.symm
/-- what the journal turned is its own still -/
theorem JS.sub {w w' : World} {o : Nat → Nat} {i pf p n : Nat} {g g' : Option Nat} {L L' : List Rv} {V' : List (Int × Int)} (h3 : ∀ k, Jr.Own w p pf g k → o k = i) (h4 : ∀ v ∈ L, v.b ≠ [] → ∀ ad, v.A = some ad → o ad.block = i) (hlt : ∀ v ∈ L, v.b ≠ [] → ∀ ad, v.A = some ad → ad.block < w.heap.size) (hJ : JAt w' 0 p pf g' ⟨D V', n, false⟩ L') (hL : rs L' = recs V') (hG : Good V')
    (hs : Jr.Sub w w' p pf g g' L L') : JS w' (up o w.heap.size i) i pf p n V' := by
  refine ⟨g', L', hJ, hL, fun k hk => ?_, fun v hv hb ad e => ?_, hG⟩
  · by_cases hkl : k < w.heap.size
    · rw [up_lt hkl]
      rcases hs.1 k hk with e | e
      · exact h3 k e
      · omega
    · exact up_ge (by omega)
  · by_cases hkl : ad.block < w.heap.size
    · rw [up_lt hkl]
      rcases hs.2 v hv with e1 | e1
      · exact h4 v e1 hb ad e
      · have := e1 hb ad e; omega
    · exact up_ge (by omega)
theorem JS.mono {w : World} {o o' : Nat → Nat} {i pf p n : Nat} {V : List (Int × Int)} (h : JS w o i pf p n V) (ho : ∀ k, o k = i → o' k = i) : JS w o' i pf p n V := by
  obtain ⟨g, L, h1, h2, h3, h4, h5⟩ := h
  exact ⟨g, L, h1, h2, fun k hk => ho _ (h3 k hk), fun v hv hb ad e => ho _ (h4 v hv hb ad e), h5⟩
theorem VAt.mono {w : World} {o o' : Nat → Nat} {i pf rp : Nat} {V : List (Int × Int)} (h : VAt w o i pf rp V) (ho : ∀ k, o k = i → o' k = i) : VAt w o' i pf rp V := by
  obtain ⟨p, h1, h2, h3⟩ := h
  exact ⟨p, h1.mono ho, h2, ho _ h3⟩
theorem JS.good {w : World} {o : Nat → Nat} {i pf p n : Nat} {V : List (Int × Int)} (h : JS w o i pf p n V) : Good V := by
  obtain ⟨g, L, h1, h2, h3, h4, h5⟩ := h; exact h5
/-- a vote is appended: it is not synced yet -/
theorem appendV_any (w : World) (o : Nat → Nat) (i pf p : Nat) (V : List (Int × Int)) (t n : Int) (A : Option Addr) (c base : Nat) (h : JS w o i pf p (D V).length V) (ht : 1 ≤ t ∧ t ≤ 4) (hn : 0 ≤ n ∧ n ≤ 2) (hlt : term V < t)
    (hE : w.ownsRow base 5 1 (.slice A (Wr.enc t ++ Wr.enc n).length c) (Wr.enc t ++ Wr.enc n).length ((Wr.enc t ++ Wr.enc n).map (.int .u8))) (hA : ∀ ad, A = some ad → o ad.block ≠ i) :
    Calls Try.prog 41 #[.pointer (some ⟨p, 0, none⟩), .agg #[.int .u8 86, .slice A (Wr.enc t ++ Wr.enc n).length c]] w fun e w' => e = .returned (.int .i64 0) ∧ JS w' (up o w.heap.size i) i pf p (D V).length (V ++ [(t, n)]) ∧ Chg (fun k => o k = i) w w' ∧ ∀ x cs, Blk w x 71 cs → Blk w' x 71 cs := by
  obtain ⟨g, L, h1, h2, h3, h4, h5⟩ := h
  have hG := h5.snoc ht hn hlt
  have hl := D_len h5
  have hl2 := D_len hG
  have hLl : L.length ≤ 4 := by have := h5.len; rw [← recs_len, ← h2, rs_len] at this; exact this
  have hbd : Bod w g 0 ⟨86, Wr.enc t ++ Wr.enc n, A, c⟩ := ⟨Rd.of_own hE, fun _ ad e => .inr ⟨by
    rcases hE.2 with ⟨e1, _⟩ | ⟨k', cap, cur, e1, _, hh, _⟩
    · injection e1 with e1; have e : A = some ad := e; rw [e1] at e; cases e
    · injection e1 with e1; have e : A = some ad := e; rw [e1] at e; injection e with e; subst e; exact ⟨cur, _, hh⟩, fun e2 => hA ad e (h3 _ (.inr (.inr (.inl e2))))⟩⟩
  have hone : (Jr.one (Jr.sealF Jr.s0 (rs L)) ⟨86, Wr.enc t ++ Wr.enc n⟩).length + (D V).length ≤ 156 := by
    rw [D_snoc, List.length_append] at hl2
    rw [h2]; exact Nat.le_trans (by show _ ≤ (D V).length + (Jr.one (Jr.sealF Jr.s0 (recs V)) (rec1 (t, n))).length; exact Nat.le_of_eq (Nat.add_comm _ _)) hl2
  have hbl := rec1_len (v := (t, n)) ⟨ht, hn⟩
  have hbl2 : (Wr.enc t ++ Wr.enc n).length ≤ 20 := hbl
  refine (jappendX_any w 0 p pf g _ L 86 A (Wr.enc t ++ Wr.enc n) c h1 hbd (by show (D V).length ≤ _; omega) (by omega)).mono ?_
  rintro e w' ⟨g', L', rfl, hJ, hL, hkf, hc, hg, hs⟩
  have e0 : St.writeE ⟨D V, (D V).length, false⟩ (Jr.one (Jr.sealF Jr.s0 (rs L)) ⟨86, Wr.enc t ++ Wr.enc n⟩) = 0 := by
    unfold St.writeE St.fits
    rw [if_neg (by simp), if_pos (by simp; omega)]
  have e1 : Jr.apE ⟨D V, (D V).length, false⟩ (Jr.sealF Jr.s0 (rs L)) ⟨86, Wr.enc t ++ Wr.enc n⟩ = 0 := by
    unfold Jr.apE; rw [if_neg (by show ¬ 8192 < (Wr.enc t ++ Wr.enc n).length; omega)]; exact e0
  have e2 : Jr.apT ⟨D V, (D V).length, false⟩ (Jr.sealF Jr.s0 (rs L)) ⟨86, Wr.enc t ++ Wr.enc n⟩ = ⟨D (V ++ [(t, n)]), (D V).length, false⟩ := by
    unfold Jr.apT; rw [if_neg (by show ¬ 8192 < (Wr.enc t ++ Wr.enc n).length; omega)]
    unfold St.write St.fits
    rw [if_neg (by simp), if_pos (by simp; omega), D_snoc, h2]; rfl
  have e3 : Jr.apL ⟨D V, (D V).length, false⟩ (Jr.sealF Jr.s0 (rs L)) (rs L) ⟨86, Wr.enc t ++ Wr.enc n⟩ = recs (V ++ [(t, n)]) := by
    unfold Jr.apL; rw [e1, if_pos rfl, recs_snoc, h2]; rfl
  rw [e2] at hJ
  rw [e3] at hL
  refine ⟨by rw [e1], JS.sub h3 h4 (fun v hv hb ad e => ?_) hJ hL hG hs, hc.mono fun k _ e => h3 k e, fun x cs hx => hx.kf hkf (by decide) (by decide)⟩
  obtain ⟨_, _, A1, c1, A2, c2, _, hO, _⟩ := h1
  exact (hO.2 v hv).lt hb e
end Vr
/-- a journal goes over a change of a vote record -/
theorem JAt.keepR {w w' : World} {B p pf : Nat} {g : Option Nat} {t : St.T} {L : List Rv} (h : JAt w B p pf g t L) (hk : Kf B [71] none w w') : JAt w' B p pf g t L ∧ ∀ k, Jr.Own w' p pf g k → Jr.Own w p pf g k := by
  obtain ⟨h0, hf, A1, c1, A2, c2, h1, h2, h3⟩ := h
  have hk2 : Kf B [71] g w w' := ⟨hk.low, fun k t cs fr a b _ => hk.keep k t cs fr a b (fun _ e => by cases e)⟩
  have hp' := h1.kf hk (by decide) (by decide)
  refine ⟨⟨h0, hf.kf0 hk (by decide) (by decide), A1, c1, A2, c2, hp', h2.kf hk2 (by decide) (by decide) (by decide) (.inl rfl), own_kf h3 hk (by decide) (by decide)⟩, fun k hk_ => ?_⟩
  rcases hk_ with e | e | e | ⟨cs, hb_, v, hv, e⟩
  · exact .inl e
  · exact .inr (.inl e)
  · exact .inr (.inr (.inl e))
  · refine .inr (.inr (.inr ⟨_, h1, v, ?_, e⟩))
    unfold Blk at hb_ hp'
    rw [hp'] at hb_
    injection hb_ with hb_; injection hb_ with hb_ _ _
    subst hb_; exact hv
theorem Vr.JS.rec_ {w w' : World} {o : Nat → Nat} {i pf p n r : Nat} {V : List (Int × Int)} {cs : Array Value} (h : Vr.JS w o i pf p n V) (hr : Blk w r 71 cs) (hc : Chg (· = r) w w') : Vr.JS w' o i pf p n V := by
  obtain ⟨g, L, h1, h2, h3, h4, h5⟩ := h
  obtain ⟨h6, h7⟩ := h1.keepR (Kf.box (B := 0) (g := none) hr hc (Nat.zero_le _))
  exact ⟨g, L, h6, h2, fun k hk => h3 k (h7 k hk), h4, h5⟩
/-- the file turns: the journal owns what it owned -/
theorem JAt.fileX {w w' : World} {B p pf : Nat} {g : Option Nat} {t t' : St.T} {L : List Rv} (h : JAt w B p pf g t L) (hto : FileTo w w' B pf g t') : ∃ g', JAt w' B p pf g' t' L ∧ Chg (Jr.Own w p pf g) w w' ∧ Jr.Sub w w' p pf g g' L L ∧ ∀ x cs, Blk w x 71 cs → Blk w' x 71 cs := by
  obtain ⟨h0, hf, A1, c1, A2, c2, h1, h2, h3⟩ := h
  obtain ⟨g', hf', hc, hg⟩ := hto
  have hk := Kf.file hf hc
  have h1' := h1.kf hk (by decide) (by decide)
  exact ⟨g', ⟨h0, hf', A1, c1, A2, c2, h1', h2.kf hk (by decide) (by decide) (by decide) hg, own_kf h3 hk (by decide) (by decide)⟩, hc.mono (fun k _ e => by
    rcases e with e | e
    · exact .inr (.inl e)
    · exact .inr (.inr (.inl e))), Jr.sub_of h1 h1' hg (fun _ => .inl) (fun _ => .inl) (fun _ => .inl), fun x cs hx => hx.kf hk (by decide) (by decide)⟩
end Go.Proofs.Ytgpdodhegacndaa
