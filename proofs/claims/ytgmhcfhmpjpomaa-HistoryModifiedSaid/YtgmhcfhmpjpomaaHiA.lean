/- Layer 49: the walks of Chain's Append, All and New. -/
import Derived.Test.YtgmhcfhmpjpomaaHi
import Derived.Deep.RegionLaw
namespace Go.Proofs.Ytgmhcfhmpjpomaa
set_option linter.unusedSimpArgs false
set_option linter.unusedVariables false
open Go.RowKit
attribute [local go_sem ↓] Go.wp_at_zero Go.wp_at_succ

theorem slRec : SlT Try.prog 38 30 5 40 := SlT.of (by kernel_rfl) (by kernel_rfl) (by omega)
namespace Hi
def init : Int := 14695981039346656037
def errA (l : List V) (v : V) : Int := if !(rg v.t && rg v.e) then 1 else match l.getLast? with
  | none => 0
  | some x => if v.t < x.t ∨ v.e < x.e then 8 else 0
def prevS (l : List V) : Int := match l.getLast? with
  | none => init
  | some x => x.s
def dup (l : List V) (v : V) : Bool := match l.getLast? with
  | none => false
  | some x => same x v
def sealed (l : List V) (v : V) : V := { v with s := sl (prevS l) v }
def appL (l : List V) (v : V) : List V := if errA l v ≠ 0 ∨ dup l v = true then l else l ++ [sealed l v]
def appS (l : List V) (v : V) : Int := if errA l v ≠ 0 then 0 else if dup l v then prevS l else sl (prevS l) v
theorem last_at {l : List V} {m : Nat} (h : l.length = m + 1) : l.getLast? = some (l[m]'(by omega)) := by
  have e : l.length - 1 = m := by omega
  rw [List.getLast?_eq_getElem?, e, List.getElem?_eq_getElem (by omega)]
end Hi
def OwnV (w : World) (B : Nat) (A : Option Addr) (c : Nat) (l : List Hi.V) : Prop := w.ownsRow B 30 5 (.slice A l.length c) l.length (Hi.vals l)
theorem OwnV.low {w w' : World} {B : Nat} {A : Option Addr} {c : Nat} {l : List Hi.V} (h : OwnV w B A c l) (hb : Below w.heap.size w w') : OwnV w' B A c l := own_below h hb (Nat.le_refl _)
/-- a *history.Chain at block p, its records in block g (none: no records yet) -/
def ChAt (w : World) (B p : Nat) (g : Option Nat) (l : List Hi.V) : Prop :=
  B ≤ p ∧ ∃ A c, Blk w p 62 #[.slice A l.length c] ∧ OwnV w B A c l ∧ A.map (·.block) = g
def ChTo (w w' : World) (B p : Nat) (g : Option Nat) (l' : List Hi.V) : Prop :=
  ∃ g', ChAt w' B p g' l' ∧ Chg (fun k => k = p ∨ some k = g) w w' ∧ (g' = g ∨ ∃ k, g' = some k ∧ w.heap.size ≤ k)
theorem ChAt.low {w w' : World} {B p : Nat} {g : Option Nat} {l : List Hi.V} (h : ChAt w B p g l) (hb : Below w.heap.size w w') : ChAt w' B p g l := by
  obtain ⟨hB, A, c, h1, h2, h3⟩ := h
  exact ⟨hB, A, c, h1.low hb, h2.low hb, h3⟩
theorem ChAt.lt {w : World} {B p : Nat} {g : Option Nat} {l : List Hi.V} (h : ChAt w B p g l) : p < w.heap.size ∧ ∀ k, g = some k → k < w.heap.size ∧ B ≤ k := by
  obtain ⟨hB, A, c, h1, h2, h3⟩ := h
  refine ⟨h1.lt, fun k hk => ?_⟩
  have := h2.lt k (by rw [ownBlock_slice, h3, hk])
  exact ⟨this.2, this.1⟩
theorem ChAt.chg {S : Nat → Prop} {w w' : World} {B p : Nat} {g : Option Nat} {l : List Hi.V} (h : ChAt w B p g l) (hc : Chg S w w') (hp : ¬ S p) (hg : ∀ k, g = some k → ¬ S k) : ChAt w' B p g l := by
  obtain ⟨hB, A, c, h1, h2, h3⟩ := h
  exact ⟨hB, A, c, h1.chg hc hp, own_to h2 hc (fun k hk => hg k (h3 ▸ hk)), h3⟩

theorem newChain_any (w : World) : Calls Try.prog 22 #[] w fun e w' => e = .returned (.pointer (some ⟨w.heap.size, 0, none⟩)) ∧ ChAt w' w.heap.size w.heap.size none [] ∧ Below w.heap.size w w' := by
  go_enter Try.func22, Try.ntmps22
  go_wp2
  go_ret
  exact ⟨rfl, ⟨Nat.le_refl _, none, 0, Blk.new _ _ _, World.ownsRow_nil _ _ _ _, rfl⟩, (Below.refl _ _).alloc (Nat.le_refl _) _⟩

set_option maxRecDepth 100000 in
theorem all_any (w : World) (B p : Nat) (g : Option Nat) (l : List Hi.V) (h : ChAt w B p g l) (hl : l.length ≤ 10000) : Calls Try.prog 20 #[.pointer (some ⟨p, 0, none⟩)] w fun e w' =>
    ∃ A c, e = .returned (.slice A l.length c) ∧ OwnV w' w.heap.size A c l ∧ Below w.heap.size w w' := by
  obtain ⟨hB, A, c, hb, hown, hg⟩ := h
  have h0 := hb.cell 0
  simp only [List.getElem?_toArray, List.getElem?_cons_zero] at h0
  have HR := Lib.hid (Rd.of_own hown)
  have HN := Lib.hid (World.ownsRow_nil w w.heap.size 30 5)
  clear hb hown hg
  go_enter Try.func20, Try.ntmps20
  go_wp2_with (at_builtin; refine wpList_app l.length (Hi.vals l) rfl rfl slRec HN.out rfl HR.out rfl (Hi.vals_len l) (Hi.vals_one l) (by unfold maxLen; omega) (Nat.le_refl _) (by omega) rfl ?_; intro A2 c2 w2 hown2 hbel2 _ _)
  go_ret
  exact ⟨A2, c2, rfl, hown2, hbel2⟩

set_option maxRecDepth 100000 in
set_option maxHeartbeats 1000000 in
theorem append_range (w : World) (B p : Nat) (g : Option Nat) (l : List Hi.V) (v : Hi.V) (h : ChAt w B p g l) (hl : l.length ≤ 10000) (hr : (Hi.rg v.t && Hi.rg v.e) = false) :
    Calls Try.prog 21 #[.pointer (some ⟨p, 0, none⟩), .int .i64 v.t, .int .i64 v.e, .int .u64 v.b, .int .u64 v.d] w fun e w' => e = .returned (.tuple #[.int .u64 (Hi.appS l v), .int .i64 (Hi.errA l v)]) ∧ ChTo w w' B p g (Hi.appL l v) := by
  have HE := Lib.hid (show Hi.errA l v = 1 by unfold Hi.errA; rw [hr]; rfl)
  have HS := Lib.hid (show Hi.appS l v = 0 by unfold Hi.appS; rw [HE.out]; rfl)
  have HL := Lib.hid (show Hi.appL l v = l by unfold Hi.appL; rw [HE.out]; rfl)
  have H := Lib.hid h
  clear h
  rw [HE.out, HS.out, HL.out]
  cases h1 : Hi.rg v.t with
  | false =>
    clear hr
    go_enter Try.func21, Try.ntmps21
    go_wp2_with (go_at_call 27; refine (hrg_any _ _).mono ?_; rintro e w' ⟨rfl, rfl⟩)
    go_ret2
    exact ⟨rfl, g, H.out, Chg.refl _ _, .inl rfl⟩
  | true =>
    have h2 : Hi.rg v.e = false := by rw [h1] at hr; exact hr
    clear hr
    go_enter Try.func21, Try.ntmps21
    go_wp2_with (go_at_call 27; refine (hrg_any _ _).mono ?_; rintro e w' ⟨rfl, rfl⟩)
    go_ret2
    exact ⟨rfl, g, H.out, Chg.refl _ _, .inl rfl⟩

set_option maxRecDepth 100000 in
set_option maxHeartbeats 1000000 in
theorem append_old (w : World) (B p : Nat) (g : Option Nat) (l : List Hi.V) (v : Hi.V) (h : ChAt w B p g l) (hl : l.length ≤ 10000) (h1 : Hi.rg v.t = true) (h2 : Hi.rg v.e = true) (m : Nat) (hm : l.length = m + 1) (hlt : v.t < (l[m]'(by omega)).t ∨ v.e < (l[m]'(by omega)).e) :
    Calls Try.prog 21 #[.pointer (some ⟨p, 0, none⟩), .int .i64 v.t, .int .i64 v.e, .int .u64 v.b, .int .u64 v.d] w fun e w' => e = .returned (.tuple #[.int .u64 (Hi.appS l v), .int .i64 (Hi.errA l v)]) ∧ ChTo w w' B p g (Hi.appL l v) := by
  have hla := Hi.last_at hm
  obtain ⟨x, hx⟩ : ∃ x, l[m]'(by omega) = x := ⟨_, rfl⟩
  rw [hx] at hla hlt
  have HE := Lib.hid (show Hi.errA l v = 8 by unfold Hi.errA; rw [h1, h2, hla]; exact if_pos hlt)
  have HS := Lib.hid (show Hi.appS l v = 0 by unfold Hi.appS; rw [HE.out]; rfl)
  have HL := Lib.hid (show Hi.appL l v = l by unfold Hi.appL; rw [HE.out]; rfl)
  rw [HE.out, HS.out, HL.out]
  have HC := Lib.hid h
  obtain ⟨hB, A, c, hb, hown, hg⟩ := h
  have hlm : (l.length : Int) - 1 = (m : Int) := by omega
  have hlp : (0 : Int) < (l.length : Int) := by omega
  have hml : m < l.length := by omega
  have hmi : (m : Int) < (l.length : Int) := by omega
  obtain ⟨ad, bk, of_, hA, hadd, k0, k1, k2, k3, k4⟩ := rd_vals (Rd.of_own hown) m hml
  rw [hx] at k0 k1 k2 k3 k4
  have hbk := World.block_lt_of_cell? w _ k0
  have HM := Lib.hid hm
  subst hA
  clear hm hla hx
  have c0 := hb.cell 0
  simp only [List.getElem?_toArray, List.getElem?_cons_zero] at c0
  have ltp := hb.lt
  have HB := Lib.hid (Below.refl w.heap.size w)
  have HCB := Lib.hid hb
  have HO := Lib.hid hown
  have HG := Lib.hid hg
  clear hb hown hg
  by_cases hq : v.t < x.t
  · have hq2 : True := trivial
    clear hlt
    go_enter Try.func21, Try.ntmps21
    go_wp2_with (first | (go_at_call 27; refine (hrg_any _ _).mono ?_; rintro e w' ⟨rfl, rfl⟩) | (go_at_call 26; refine (sum_any none [] 0 _ (Rd.nil _ _) (by unfold maxLen; simp)).mono ?_; rw [Ck.moreI_nil]; rintro e w' ⟨rfl, rfl⟩))
    go_ret2
    exact ⟨rfl, g, HC.out.low (((Below.refl w.heap.size w).alloc (Nat.le_refl _) _).alloc (by simp) _), Chg.of_below (((Below.refl w.heap.size w).alloc (Nat.le_refl _) _).alloc (by simp) _) _, .inl rfl⟩
  · have hq2 : v.e < x.e := hlt.resolve_left hq
    clear hlt
    go_enter Try.func21, Try.ntmps21
    go_wp2_with (first | (go_at_call 27; refine (hrg_any _ _).mono ?_; rintro e w' ⟨rfl, rfl⟩) | (go_at_call 26; refine (sum_any none [] 0 _ (Rd.nil _ _) (by unfold maxLen; simp)).mono ?_; rw [Ck.moreI_nil]; rintro e w' ⟨rfl, rfl⟩))
    go_ret2
    exact ⟨rfl, g, HC.out.low (((Below.refl w.heap.size w).alloc (Nat.le_refl _) _).alloc (by simp) _), Chg.of_below (((Below.refl w.heap.size w).alloc (Nat.le_refl _) _).alloc (by simp) _) _, .inl rfl⟩

set_option maxRecDepth 100000 in
set_option maxHeartbeats 1000000 in
theorem append_dup (w : World) (B p : Nat) (g : Option Nat) (l : List Hi.V) (v : Hi.V) (h : ChAt w B p g l) (hl : l.length ≤ 10000) (h1 : Hi.rg v.t = true) (h2 : Hi.rg v.e = true) (m : Nat) (hm : l.length = m + 1) (hlt : ¬ (v.t < (l[m]'(by omega)).t ∨ v.e < (l[m]'(by omega)).e)) (hd : Hi.same (l[m]'(by omega)) v = true) :
    Calls Try.prog 21 #[.pointer (some ⟨p, 0, none⟩), .int .i64 v.t, .int .i64 v.e, .int .u64 v.b, .int .u64 v.d] w fun e w' => e = .returned (.tuple #[.int .u64 (Hi.appS l v), .int .i64 (Hi.errA l v)]) ∧ ChTo w w' B p g (Hi.appL l v) := by
  have hla := Hi.last_at hm
  obtain ⟨x, hx⟩ : ∃ x, l[m]'(by omega) = x := ⟨_, rfl⟩
  rw [hx] at hla hlt hd
  have HE := Lib.hid (show Hi.errA l v = 0 by unfold Hi.errA; rw [h1, h2, hla]; exact if_neg hlt)
  have hdp : Hi.dup l v = true := by unfold Hi.dup; rw [hla]; exact hd
  have HS := Lib.hid (show Hi.appS l v = x.s by unfold Hi.appS; rw [HE.out, hdp]; unfold Hi.prevS; rw [hla]; rfl)
  have HL := Lib.hid (show Hi.appL l v = l by unfold Hi.appL; rw [HE.out, hdp]; rfl)
  rw [HE.out, HS.out, HL.out]
  have HC := Lib.hid h
  obtain ⟨hB, A, c, hb, hown, hg⟩ := h
  have hlm : (l.length : Int) - 1 = (m : Int) := by omega
  have hlp : (0 : Int) < (l.length : Int) := by omega
  have hml : m < l.length := by omega
  have hmi : (m : Int) < (l.length : Int) := by omega
  obtain ⟨ad, bk, of_, hA, hadd, k0, k1, k2, k3, k4⟩ := rd_vals (Rd.of_own hown) m hml
  rw [hx] at k0 k1 k2 k3 k4
  have hbk := World.block_lt_of_cell? w _ k0
  have HM := Lib.hid hm
  subst hA
  clear hm hla hx
  have c0 := hb.cell 0
  simp only [List.getElem?_toArray, List.getElem?_cons_zero] at c0
  have ltp := hb.lt
  have HB := Lib.hid (Below.refl w.heap.size w)
  have HCB := Lib.hid hb
  have HO := Lib.hid hown
  have HG := Lib.hid hg
  clear hb hown hg
  obtain ⟨hlt1, hlt2⟩ : ¬ v.t < x.t ∧ ¬ v.e < x.e := ⟨fun h => hlt (.inl h), fun h => hlt (.inr h)⟩
  have HSM := Lib.hid hd
  clear hlt hd hdp
  go_enter Try.func21, Try.ntmps21
  go_wp2_with (first | (go_at_call 27; refine (hrg_any _ _).mono ?_; rintro e w' ⟨rfl, rfl⟩) | (go_at_call 26; refine (sum_any none [] 0 _ (Rd.nil _ _) (by unfold maxLen; simp)).mono ?_; rw [Ck.moreI_nil]; rintro e w' ⟨rfl, rfl⟩))
  have hal := ((Below.refl w.heap.size w).alloc (Nat.le_refl _) (.cells #[.int .i64 v.t, .int .i64 v.e, .int .u64 v.b, .int .u64 v.d, .int .u64 0] 30)).alloc (by simp) (.cells #[.int .i64 x.t, .int .i64 x.e, .int .u64 x.b, .int .u64 x.d, .int .u64 x.s] 30)
  have HR := Lib.hid ((Blk.new w 30 #[.int .i64 v.t, .int .i64 v.e, .int .u64 v.b, .int .u64 v.d, .int .u64 0]).alloc (.cells #[.int .i64 x.t, .int .i64 x.e, .int .u64 x.b, .int .u64 x.d, .int .u64 x.s] 30))
  have HX := Lib.hid (Blk.new' (w.alloc (.cells #[.int .i64 v.t, .int .i64 v.e, .int .u64 v.b, .int .u64 v.d, .int .u64 0] 30)) 30 #[.int .i64 x.t, .int .i64 x.e, .int .u64 x.b, .int .u64 x.d, .int .u64 x.s] (w.heap.size + 1) (by simp))
  clear HB
  have HB := Lib.hid hal
  have HC2 := Lib.hid (HCB.out.low hal)
  have HO2 := Lib.hid (OwnV.low HO.out hal)
  clear HCB HO hal
  obtain ⟨w0, hw0⟩ : ∃ w0, (w.alloc (.cells #[.int .i64 v.t, .int .i64 v.e, .int .u64 v.b, .int .u64 v.d, .int .u64 0] 30)).alloc (.cells #[.int .i64 x.t, .int .i64 x.e, .int .u64 x.b, .int .u64 x.d, .int .u64 x.s] 30) = w0 := ⟨_, rfl⟩
  rw [hw0] at HR HX HB HC2 HO2 ⊢
  clear hw0
  have HCB := Lib.hid HC2.out
  have HO := Lib.hid HO2.out
  clear HC2 HO2 c0 k0 k1 k2 k3 k4 hbk hadd
  have r0_ : w0.cell? ⟨w.heap.size, 0, none⟩ = some (.int .i64 v.t) := HR.out.cell 0
  have r1_ : w0.cell? ⟨w.heap.size, 1, none⟩ = some (.int .i64 v.e) := HR.out.cell 1
  have r2_ : w0.cell? ⟨w.heap.size, 2, none⟩ = some (.int .u64 v.b) := HR.out.cell 2
  have r3_ : w0.cell? ⟨w.heap.size, 3, none⟩ = some (.int .u64 v.d) := HR.out.cell 3
  have r4_ : w0.cell? ⟨w.heap.size, 4, none⟩ = some (.int .u64 0) := HR.out.cell 4
  have ltR_ := HR.out.lt
  have cb0_ : w0.cell? ⟨p, 0, none⟩ = some (.slice (some ad) l.length c) := HCB.out.cell 0
  have ltCB_ := HCB.out.lt
  have x0_ : w0.cell? ⟨w.heap.size + 1, 0, none⟩ = some (.int .i64 x.t) := HX.out.cell 0
  have x1_ : w0.cell? ⟨w.heap.size + 1, 1, none⟩ = some (.int .i64 x.e) := HX.out.cell 1
  have x2_ : w0.cell? ⟨w.heap.size + 1, 2, none⟩ = some (.int .u64 x.b) := HX.out.cell 2
  have x3_ : w0.cell? ⟨w.heap.size + 1, 3, none⟩ = some (.int .u64 x.d) := HX.out.cell 3
  have x4_ : w0.cell? ⟨w.heap.size + 1, 4, none⟩ = some (.int .u64 x.s) := HX.out.cell 4
  have ltX_ := HX.out.lt
  refine (same_any x ⟨v.t, v.e, v.b, v.d, 0⟩ _).mono ?_
  rw [show Hi.same x ⟨v.t, v.e, v.b, v.d, 0⟩ = true from HSM.out]
  rintro e w1 ⟨rfl, hb⟩
  have TR_ := Lib.hid (HR.out.low hb)
  have TCB_ := Lib.hid (HCB.out.low hb)
  have TO_ := Lib.hid (HO.out.low hb)
  have TX_ := Lib.hid (HX.out.low hb)
  have TB_ := Lib.hid (HB.out.trans (hb.mono HB.out.size))
  clear r0_ r1_ r2_ r3_ r4_ ltR_ cb0_ ltCB_ x0_ x1_ x2_ x3_ x4_ ltX_
  clear HB HR HCB HO HX
  have HR := Lib.hid TR_.out
  have HCB := Lib.hid TCB_.out
  have HO := Lib.hid TO_.out
  have HX := Lib.hid TX_.out
  have HB := Lib.hid TB_.out
  clear TB_ TR_ TCB_ TO_ TX_
  clear hb
  have r0_ : w1.cell? ⟨w.heap.size, 0, none⟩ = some (.int .i64 v.t) := HR.out.cell 0
  have r1_ : w1.cell? ⟨w.heap.size, 1, none⟩ = some (.int .i64 v.e) := HR.out.cell 1
  have r2_ : w1.cell? ⟨w.heap.size, 2, none⟩ = some (.int .u64 v.b) := HR.out.cell 2
  have r3_ : w1.cell? ⟨w.heap.size, 3, none⟩ = some (.int .u64 v.d) := HR.out.cell 3
  have r4_ : w1.cell? ⟨w.heap.size, 4, none⟩ = some (.int .u64 0) := HR.out.cell 4
  have ltR_ := HR.out.lt
  have cb0_ : w1.cell? ⟨p, 0, none⟩ = some (.slice (some ad) l.length c) := HCB.out.cell 0
  have ltCB_ := HCB.out.lt
  have x0_ : w1.cell? ⟨w.heap.size + 1, 0, none⟩ = some (.int .i64 x.t) := HX.out.cell 0
  have x1_ : w1.cell? ⟨w.heap.size + 1, 1, none⟩ = some (.int .i64 x.e) := HX.out.cell 1
  have x2_ : w1.cell? ⟨w.heap.size + 1, 2, none⟩ = some (.int .u64 x.b) := HX.out.cell 2
  have x3_ : w1.cell? ⟨w.heap.size + 1, 3, none⟩ = some (.int .u64 x.d) := HX.out.cell 3
  have x4_ : w1.cell? ⟨w.heap.size + 1, 4, none⟩ = some (.int .u64 x.s) := HX.out.cell 4
  have ltX_ := HX.out.lt
  go_wp2
  go_ret2
  exact ⟨rfl, g, HC.out.low HB.out, Chg.of_below HB.out _, .inl rfl⟩

set_option maxRecDepth 100000 in
set_option maxHeartbeats 1000000 in
theorem append_new (w : World) (B p : Nat) (g : Option Nat) (l : List Hi.V) (v : Hi.V) (h : ChAt w B p g l) (hl : l.length ≤ 10000) (h1 : Hi.rg v.t = true) (h2 : Hi.rg v.e = true) (m : Nat) (hm : l.length = m + 1) (hlt : ¬ (v.t < (l[m]'(by omega)).t ∨ v.e < (l[m]'(by omega)).e)) (hd : Hi.same (l[m]'(by omega)) v = false) :
    Calls Try.prog 21 #[.pointer (some ⟨p, 0, none⟩), .int .i64 v.t, .int .i64 v.e, .int .u64 v.b, .int .u64 v.d] w fun e w' => e = .returned (.tuple #[.int .u64 (Hi.appS l v), .int .i64 (Hi.errA l v)]) ∧ ChTo w w' B p g (Hi.appL l v) := by
  have hla := Hi.last_at hm
  obtain ⟨x, hx⟩ : ∃ x, l[m]'(by omega) = x := ⟨_, rfl⟩
  rw [hx] at hla hlt hd
  have HE := Lib.hid (show Hi.errA l v = 0 by unfold Hi.errA; rw [h1, h2, hla]; exact if_neg hlt)
  have hdp : Hi.dup l v = false := by unfold Hi.dup; rw [hla]; exact hd
  obtain ⟨sv, hsv⟩ : ∃ s, Hi.sl x.s v = s := ⟨_, rfl⟩
  have HS := Lib.hid (show Hi.appS l v = sv by rw [← hsv]; unfold Hi.appS; rw [HE.out, hdp]; unfold Hi.prevS; rw [hla]; rfl)
  have HL := Lib.hid (show Hi.appL l v = l ++ [⟨v.t, v.e, v.b, v.d, sv⟩] by rw [← hsv]; unfold Hi.appL Hi.sealed; rw [HE.out, hdp]; unfold Hi.prevS; rw [hla]; rfl)
  have HSV := Lib.hid hsv
  clear hsv
  rw [HE.out, HS.out, HL.out]
  have HC := Lib.hid h
  obtain ⟨hB, A, c, hb, hown, hg⟩ := h
  have hlm : (l.length : Int) - 1 = (m : Int) := by omega
  have hlp : (0 : Int) < (l.length : Int) := by omega
  have hml : m < l.length := by omega
  have hmi : (m : Int) < (l.length : Int) := by omega
  obtain ⟨ad, bk, of_, hA, hadd, k0, k1, k2, k3, k4⟩ := rd_vals (Rd.of_own hown) m hml
  rw [hx] at k0 k1 k2 k3 k4
  have hbk := World.block_lt_of_cell? w _ k0
  have HM := Lib.hid hm
  subst hA
  clear hm hla hx
  have c0 := hb.cell 0
  simp only [List.getElem?_toArray, List.getElem?_cons_zero] at c0
  have ltp := hb.lt
  have HB := Lib.hid (Below.refl w.heap.size w)
  have HCB := Lib.hid hb
  have HO := Lib.hid hown
  have HG := Lib.hid hg
  clear hb hown hg
  obtain ⟨hlt1, hlt2⟩ : ¬ v.t < x.t ∧ ¬ v.e < x.e := ⟨fun h => hlt (.inl h), fun h => hlt (.inr h)⟩
  have HSM := Lib.hid hd
  clear hlt hd hdp
  go_enter Try.func21, Try.ntmps21
  go_wp2_with (first | (go_at_call 27; refine (hrg_any _ _).mono ?_; rintro e w' ⟨rfl, rfl⟩) | (go_at_call 26; refine (sum_any none [] 0 _ (Rd.nil _ _) (by unfold maxLen; simp)).mono ?_; rw [Ck.moreI_nil]; rintro e w' ⟨rfl, rfl⟩))
  have hal := ((Below.refl w.heap.size w).alloc (Nat.le_refl _) (.cells #[.int .i64 v.t, .int .i64 v.e, .int .u64 v.b, .int .u64 v.d, .int .u64 0] 30)).alloc (by simp) (.cells #[.int .i64 x.t, .int .i64 x.e, .int .u64 x.b, .int .u64 x.d, .int .u64 x.s] 30)
  have HR := Lib.hid ((Blk.new w 30 #[.int .i64 v.t, .int .i64 v.e, .int .u64 v.b, .int .u64 v.d, .int .u64 0]).alloc (.cells #[.int .i64 x.t, .int .i64 x.e, .int .u64 x.b, .int .u64 x.d, .int .u64 x.s] 30))
  have HX := Lib.hid (Blk.new' (w.alloc (.cells #[.int .i64 v.t, .int .i64 v.e, .int .u64 v.b, .int .u64 v.d, .int .u64 0] 30)) 30 #[.int .i64 x.t, .int .i64 x.e, .int .u64 x.b, .int .u64 x.d, .int .u64 x.s] (w.heap.size + 1) (by simp))
  clear HB
  have HB := Lib.hid hal
  have HC2 := Lib.hid (HCB.out.low hal)
  have HO2 := Lib.hid (OwnV.low HO.out hal)
  clear HCB HO hal
  obtain ⟨w0, hw0⟩ : ∃ w0, (w.alloc (.cells #[.int .i64 v.t, .int .i64 v.e, .int .u64 v.b, .int .u64 v.d, .int .u64 0] 30)).alloc (.cells #[.int .i64 x.t, .int .i64 x.e, .int .u64 x.b, .int .u64 x.d, .int .u64 x.s] 30) = w0 := ⟨_, rfl⟩
  rw [hw0] at HR HX HB HC2 HO2 ⊢
  clear hw0
  have HCB := Lib.hid HC2.out
  have HO := Lib.hid HO2.out
  clear HC2 HO2 c0 k0 k1 k2 k3 k4 hbk hadd
  have r0_ : w0.cell? ⟨w.heap.size, 0, none⟩ = some (.int .i64 v.t) := HR.out.cell 0
  have r1_ : w0.cell? ⟨w.heap.size, 1, none⟩ = some (.int .i64 v.e) := HR.out.cell 1
  have r2_ : w0.cell? ⟨w.heap.size, 2, none⟩ = some (.int .u64 v.b) := HR.out.cell 2
  have r3_ : w0.cell? ⟨w.heap.size, 3, none⟩ = some (.int .u64 v.d) := HR.out.cell 3
  have r4_ : w0.cell? ⟨w.heap.size, 4, none⟩ = some (.int .u64 0) := HR.out.cell 4
  have ltR_ := HR.out.lt
  have cb0_ : w0.cell? ⟨p, 0, none⟩ = some (.slice (some ad) l.length c) := HCB.out.cell 0
  have ltCB_ := HCB.out.lt
  have x0_ : w0.cell? ⟨w.heap.size + 1, 0, none⟩ = some (.int .i64 x.t) := HX.out.cell 0
  have x1_ : w0.cell? ⟨w.heap.size + 1, 1, none⟩ = some (.int .i64 x.e) := HX.out.cell 1
  have x2_ : w0.cell? ⟨w.heap.size + 1, 2, none⟩ = some (.int .u64 x.b) := HX.out.cell 2
  have x3_ : w0.cell? ⟨w.heap.size + 1, 3, none⟩ = some (.int .u64 x.d) := HX.out.cell 3
  have x4_ : w0.cell? ⟨w.heap.size + 1, 4, none⟩ = some (.int .u64 x.s) := HX.out.cell 4
  have ltX_ := HX.out.lt
  refine (same_any x ⟨v.t, v.e, v.b, v.d, 0⟩ _).mono ?_
  rw [show Hi.same x ⟨v.t, v.e, v.b, v.d, 0⟩ = false from HSM.out]
  rintro e w1 ⟨rfl, hb⟩
  have TR_ := Lib.hid (HR.out.low hb)
  have TCB_ := Lib.hid (HCB.out.low hb)
  have TO_ := Lib.hid (HO.out.low hb)
  have TX_ := Lib.hid (HX.out.low hb)
  have TB_ := Lib.hid (HB.out.trans (hb.mono HB.out.size))
  clear r0_ r1_ r2_ r3_ r4_ ltR_ cb0_ ltCB_ x0_ x1_ x2_ x3_ x4_ ltX_
  clear HB HR HCB HO HX
  have HR := Lib.hid TR_.out
  have HCB := Lib.hid TCB_.out
  have HO := Lib.hid TO_.out
  have HX := Lib.hid TX_.out
  have HB := Lib.hid TB_.out
  clear TB_ TR_ TCB_ TO_ TX_
  clear hb
  have r0_ : w1.cell? ⟨w.heap.size, 0, none⟩ = some (.int .i64 v.t) := HR.out.cell 0
  have r1_ : w1.cell? ⟨w.heap.size, 1, none⟩ = some (.int .i64 v.e) := HR.out.cell 1
  have r2_ : w1.cell? ⟨w.heap.size, 2, none⟩ = some (.int .u64 v.b) := HR.out.cell 2
  have r3_ : w1.cell? ⟨w.heap.size, 3, none⟩ = some (.int .u64 v.d) := HR.out.cell 3
  have r4_ : w1.cell? ⟨w.heap.size, 4, none⟩ = some (.int .u64 0) := HR.out.cell 4
  have ltR_ := HR.out.lt
  have cb0_ : w1.cell? ⟨p, 0, none⟩ = some (.slice (some ad) l.length c) := HCB.out.cell 0
  have ltCB_ := HCB.out.lt
  have x0_ : w1.cell? ⟨w.heap.size + 1, 0, none⟩ = some (.int .i64 x.t) := HX.out.cell 0
  have x1_ : w1.cell? ⟨w.heap.size + 1, 1, none⟩ = some (.int .i64 x.e) := HX.out.cell 1
  have x2_ : w1.cell? ⟨w.heap.size + 1, 2, none⟩ = some (.int .u64 x.b) := HX.out.cell 2
  have x3_ : w1.cell? ⟨w.heap.size + 1, 3, none⟩ = some (.int .u64 x.d) := HX.out.cell 3
  have x4_ : w1.cell? ⟨w.heap.size + 1, 4, none⟩ = some (.int .u64 x.s) := HX.out.cell 4
  have ltX_ := HX.out.lt
  go_wp2_with fail
  refine (seal_any x.s ⟨v.t, v.e, v.b, v.d, 0⟩ _).mono ?_
  rw [show Hi.sl x.s ⟨v.t, v.e, v.b, v.d, 0⟩ = sv from HSV.out]
  rintro e w2 ⟨rfl, hb⟩
  have TR_ := Lib.hid (HR.out.low hb)
  have TCB_ := Lib.hid (HCB.out.low hb)
  have TO_ := Lib.hid (HO.out.low hb)
  have TX_ := Lib.hid (HX.out.low hb)
  have TB_ := Lib.hid (HB.out.trans (hb.mono HB.out.size))
  clear r0_ r1_ r2_ r3_ r4_ ltR_ cb0_ ltCB_ x0_ x1_ x2_ x3_ x4_ ltX_
  clear HB HR HCB HO HX
  have HR := Lib.hid TR_.out
  have HCB := Lib.hid TCB_.out
  have HO := Lib.hid TO_.out
  have HX := Lib.hid TX_.out
  have HB := Lib.hid TB_.out
  clear TB_ TR_ TCB_ TO_ TX_
  clear hb
  have r0_ : w2.cell? ⟨w.heap.size, 0, none⟩ = some (.int .i64 v.t) := HR.out.cell 0
  have r1_ : w2.cell? ⟨w.heap.size, 1, none⟩ = some (.int .i64 v.e) := HR.out.cell 1
  have r2_ : w2.cell? ⟨w.heap.size, 2, none⟩ = some (.int .u64 v.b) := HR.out.cell 2
  have r3_ : w2.cell? ⟨w.heap.size, 3, none⟩ = some (.int .u64 v.d) := HR.out.cell 3
  have r4_ : w2.cell? ⟨w.heap.size, 4, none⟩ = some (.int .u64 0) := HR.out.cell 4
  have zr0_ : w2.frozen? ⟨w.heap.size, 0, none⟩ = false := HR.out.frozen 0
  have zr1_ : w2.frozen? ⟨w.heap.size, 1, none⟩ = false := HR.out.frozen 1
  have zr2_ : w2.frozen? ⟨w.heap.size, 2, none⟩ = false := HR.out.frozen 2
  have zr3_ : w2.frozen? ⟨w.heap.size, 3, none⟩ = false := HR.out.frozen 3
  have zr4_ : w2.frozen? ⟨w.heap.size, 4, none⟩ = false := HR.out.frozen 4
  have ltR_ := HR.out.lt
  have cb0_ : w2.cell? ⟨p, 0, none⟩ = some (.slice (some ad) l.length c) := HCB.out.cell 0
  have ltCB_ := HCB.out.lt
  have x0_ : w2.cell? ⟨w.heap.size + 1, 0, none⟩ = some (.int .i64 x.t) := HX.out.cell 0
  have x1_ : w2.cell? ⟨w.heap.size + 1, 1, none⟩ = some (.int .i64 x.e) := HX.out.cell 1
  have x2_ : w2.cell? ⟨w.heap.size + 1, 2, none⟩ = some (.int .u64 x.b) := HX.out.cell 2
  have x3_ : w2.cell? ⟨w.heap.size + 1, 3, none⟩ = some (.int .u64 x.d) := HX.out.cell 3
  have x4_ : w2.cell? ⟨w.heap.size + 1, 4, none⟩ = some (.int .u64 x.s) := HX.out.cell 4
  have ltX_ := HX.out.lt
  go_wp2_with fail
  have hlO : ∀ k, (some ad).map (·.block) = some k → ¬ k = w.heap.size := fun k hk => by have := (HC.out.lt.2 k (by rw [← HG.out]; exact hk)).1; omega
  have NO_ := Lib.hid (own_to HO.out (Chg.set1 w2 w.heap.size 4 (.int .u64 sv)) hlO)
  clear HO
  clear r0_ r1_ r2_ r3_ r4_ zr0_ zr1_ zr2_ zr3_ zr4_ ltR_ cb0_ ltCB_ x0_ x1_ x2_ x3_ x4_ ltX_
  clear HX
  have hc_ : Chg (· = w.heap.size) w2 ((w2).setCell ⟨w.heap.size, 4, none⟩ (.int .u64 sv)) := Chg.setCell (w2) ⟨w.heap.size, 4, none⟩ (.int .u64 sv)
  have NR_ := Lib.hid (show Blk ((w2).setCell ⟨w.heap.size, 4, none⟩ (.int .u64 sv)) w.heap.size 30 #[.int .i64 v.t, .int .i64 v.e, .int .u64 v.b, .int .u64 v.d, .int .u64 sv] from (HR.out).set_ 4 (.int .u64 sv))
  have TCB_ := Lib.hid (HCB.out.chg hc_ (by omega))
  have TB_ := Lib.hid (HB.out.trans (hc_.below (B := w.heap.size) (fun k e => by omega) HB.out.size))
  clear HB HCB
  have HCB := Lib.hid TCB_.out
  have HB := Lib.hid TB_.out
  clear TB_ TCB_
  obtain ⟨w3, hw_⟩ : ∃ w', (w2).setCell ⟨w.heap.size, 4, none⟩ (.int .u64 sv) = w' := ⟨_, rfl⟩
  rw [hw_] at NR_ HB HCB NO_ ⊢
  clear HR
  have HR := Lib.hid NR_.out
  clear hw_ hc_ NR_
  have r0_ : w3.cell? ⟨w.heap.size, 0, none⟩ = some (.int .i64 v.t) := HR.out.cell 0
  have r1_ : w3.cell? ⟨w.heap.size, 1, none⟩ = some (.int .i64 v.e) := HR.out.cell 1
  have r2_ : w3.cell? ⟨w.heap.size, 2, none⟩ = some (.int .u64 v.b) := HR.out.cell 2
  have r3_ : w3.cell? ⟨w.heap.size, 3, none⟩ = some (.int .u64 v.d) := HR.out.cell 3
  have r4_ : w3.cell? ⟨w.heap.size, 4, none⟩ = some (.int .u64 sv) := HR.out.cell 4
  have ltR_ := HR.out.lt
  have cb0_ : w3.cell? ⟨p, 0, none⟩ = some (.slice (some ad) l.length c) := HCB.out.cell 0
  have ltCB_ := HCB.out.lt
  have hzp : ¬ p = w.heap.size := by omega
  have hneP := own_ne NO_.out HCB.out (by decide)
  have HO := Lib.hid (show w3.ownsRow B 30 5 (.slice (some ad) l.length c) l.length (Hi.vals l) from NO_.out)
  clear NO_
  go_region_law (first
      | (refine step_app (l.length + 1) (Hi.vals (l ++ [⟨v.t, v.e, v.b, v.d, sv⟩])) rfl rfl slRec (base := B) (own_al HO.out _) (by rfl) (Rd.block (heap_alloc_new _ _) (by intro j u hj; simpa using hj)) rfl rfl (by intro u hu; simp at hu; rcases hu with rfl | rfl | rfl | rfl | rfl <;> rfl) (by unfold maxLen; omega) (by have := HC.out.lt.1; have := HB.out.size; simp; omega) rfl (by first | rfl | (rw [Hi.vals_append]; rfl)) ?_
         intro A4 c4 w4 hown4 hbel4 hgr4 hd4
         rw [ownBlock_slice] at hgr4 hd4
         rw [ownBlock_slice] at hd4
         have hch := Chg.grown hgr4
         have hC4 := (Blk.drew (Blk.alloc HCB.out _)).chg hch (fun h => hneP h.symm)
         have hR4 := (Blk.drew (Blk.alloc HR.out _)).chg hch (fun h => hlO _ h.symm rfl)
         have HCH4 := Lib.hid ((Chg.of_below (HB.out.alloc HB.out.size _).drew (fun k => k = p ∨ some k = g)).trans hch (fun k hk h => .inr (h.trans HG.out)))
         have HC4 := Lib.hid hC4
         have r44 : w4.cell? ⟨w.heap.size, 4, none⟩ = some (.int .u64 sv) := hR4.cell 4
         have p40 : w4.cell? ⟨p, 0, none⟩ = some (.slice (some ad) l.length c) := hC4.cell 0
         have z40 : w4.frozen? ⟨p, 0, none⟩ = false := hC4.frozen 0
         have HO4 := Lib.hid hown4
         have HD4 := Lib.hid hd4
         clear hd4 hch hC4 hR4 hown4 hbel4 hgr4))
  all_goals go_wp2
  all_goals
    go_ret2
    have hne4 := own_ne HO4.out HC4.out (by decide)
    have hs4 := Chg.set1 w4 p 0 (.slice A4 (l.length + 1) c4)
    refine ⟨rfl, A4.map (·.block), ⟨hB, A4, c4, ?_, ?_, rfl⟩, HCH4.out.trans hs4 (fun k _ hk => .inl hk), ?_⟩
    · have hb4 := HC4.out.set_ 0 (.slice A4 (l.length + 1) c4)
      rw [show (l ++ [(⟨v.t, v.e, v.b, v.d, sv⟩ : Hi.V)]).length = l.length + 1 by simp]; exact hb4
    · have ho4 := own_to HO4.out hs4 (fun k hk e => hne4 (hk.trans (congrArg some e)))
      unfold OwnV
      rw [show (l ++ [(⟨v.t, v.e, v.b, v.d, sv⟩ : Hi.V)]).length = l.length + 1 by simp]; exact ho4
    · rcases HD4.out with e | e
      · exact .inl (by rw [e]; exact HG.out)
      · exact .inr ⟨_, e, by have := HB.out.size; simp; omega⟩

set_option maxRecDepth 100000 in
set_option maxHeartbeats 1000000 in
theorem append_first (w : World) (B p : Nat) (g : Option Nat) (l : List Hi.V) (v : Hi.V) (h : ChAt w B p g l) (hl : l.length ≤ 10000) (h1 : Hi.rg v.t = true) (h2 : Hi.rg v.e = true) (h0 : l.length = 0) :
    Calls Try.prog 21 #[.pointer (some ⟨p, 0, none⟩), .int .i64 v.t, .int .i64 v.e, .int .u64 v.b, .int .u64 v.d] w fun e w' => e = .returned (.tuple #[.int .u64 (Hi.appS l v), .int .i64 (Hi.errA l v)]) ∧ ChTo w w' B p g (Hi.appL l v) := by
  obtain rfl : l = [] := List.eq_nil_of_length_eq_zero h0
  have HE := Lib.hid (show Hi.errA [] v = 0 by unfold Hi.errA; rw [h1, h2]; rfl)
  obtain ⟨sv, hsv⟩ : ∃ s, Hi.sl 14695981039346656037 v = s := ⟨_, rfl⟩
  have HS := Lib.hid (show Hi.appS [] v = sv by rw [← hsv]; unfold Hi.appS; rw [HE.out]; rfl)
  have HL := Lib.hid (show Hi.appL [] v = [⟨v.t, v.e, v.b, v.d, sv⟩] by rw [← hsv]; unfold Hi.appL; rw [HE.out]; rfl)
  have HSV := Lib.hid hsv
  clear hsv
  rw [HE.out, HS.out, HL.out]
  have HC := Lib.hid h
  obtain ⟨hB, A, c, hb, hown, hg⟩ := h
  clear h0
  have c0 := hb.cell 0
  simp only [List.getElem?_toArray, List.getElem?_cons_zero, List.length_nil] at c0
  have ltp := hb.lt
  have HB := Lib.hid (Below.refl w.heap.size w)
  have HCB := Lib.hid hb
  have HO := Lib.hid hown
  have HG := Lib.hid hg
  clear hb hown hg
  go_enter Try.func21, Try.ntmps21
  go_wp2_with (first | (go_at_call 27; refine (hrg_any _ _).mono ?_; rintro e w' ⟨rfl, rfl⟩) | (go_at_call 26; refine (sum_any none [] 0 _ (Rd.nil _ _) (by unfold maxLen; simp)).mono ?_; rw [Ck.moreI_nil]; rintro e w' ⟨rfl, rfl⟩))
  have hal := (Below.refl w.heap.size w).alloc (Nat.le_refl _) (.cells #[.int .i64 v.t, .int .i64 v.e, .int .u64 v.b, .int .u64 v.d, .int .u64 0] 30)
  have HR := Lib.hid (Blk.new w 30 #[.int .i64 v.t, .int .i64 v.e, .int .u64 v.b, .int .u64 v.d, .int .u64 0])
  clear HB
  have HB := Lib.hid hal
  have HC2 := Lib.hid (HCB.out.low hal)
  have HO2 := Lib.hid (OwnV.low HO.out hal)
  clear HCB HO hal
  obtain ⟨w0, hw0⟩ : ∃ w0, w.alloc (.cells #[.int .i64 v.t, .int .i64 v.e, .int .u64 v.b, .int .u64 v.d, .int .u64 0] 30) = w0 := ⟨_, rfl⟩
  rw [hw0] at HR HB HC2 HO2 ⊢
  clear hw0
  have HCB := Lib.hid HC2.out
  have HO := Lib.hid HO2.out
  clear HC2 HO2 c0
  have r0_ : w0.cell? ⟨w.heap.size, 0, none⟩ = some (.int .i64 v.t) := HR.out.cell 0
  have r1_ : w0.cell? ⟨w.heap.size, 1, none⟩ = some (.int .i64 v.e) := HR.out.cell 1
  have r2_ : w0.cell? ⟨w.heap.size, 2, none⟩ = some (.int .u64 v.b) := HR.out.cell 2
  have r3_ : w0.cell? ⟨w.heap.size, 3, none⟩ = some (.int .u64 v.d) := HR.out.cell 3
  have r4_ : w0.cell? ⟨w.heap.size, 4, none⟩ = some (.int .u64 0) := HR.out.cell 4
  have ltR_ := HR.out.lt
  have cb0_ : w0.cell? ⟨p, 0, none⟩ = some (.slice A 0 c) := HCB.out.cell 0
  have ltCB_ := HCB.out.lt
  refine (seal_any 14695981039346656037 ⟨v.t, v.e, v.b, v.d, 0⟩ _).mono ?_
  rw [show Hi.sl 14695981039346656037 ⟨v.t, v.e, v.b, v.d, 0⟩ = sv from HSV.out]
  rintro e w2 ⟨rfl, hb⟩
  have TR_ := Lib.hid (HR.out.low hb)
  have TCB_ := Lib.hid (HCB.out.low hb)
  have TO_ := Lib.hid (HO.out.low hb)
  have TB_ := Lib.hid (HB.out.trans (hb.mono HB.out.size))
  clear r0_ r1_ r2_ r3_ r4_ ltR_ cb0_ ltCB_
  clear HB HR HCB HO
  have HR := Lib.hid TR_.out
  have HCB := Lib.hid TCB_.out
  have HO := Lib.hid TO_.out
  have HB := Lib.hid TB_.out
  clear TB_ TR_ TCB_ TO_
  clear hb
  have r0_ : w2.cell? ⟨w.heap.size, 0, none⟩ = some (.int .i64 v.t) := HR.out.cell 0
  have r1_ : w2.cell? ⟨w.heap.size, 1, none⟩ = some (.int .i64 v.e) := HR.out.cell 1
  have r2_ : w2.cell? ⟨w.heap.size, 2, none⟩ = some (.int .u64 v.b) := HR.out.cell 2
  have r3_ : w2.cell? ⟨w.heap.size, 3, none⟩ = some (.int .u64 v.d) := HR.out.cell 3
  have r4_ : w2.cell? ⟨w.heap.size, 4, none⟩ = some (.int .u64 0) := HR.out.cell 4
  have zr0_ : w2.frozen? ⟨w.heap.size, 0, none⟩ = false := HR.out.frozen 0
  have zr1_ : w2.frozen? ⟨w.heap.size, 1, none⟩ = false := HR.out.frozen 1
  have zr2_ : w2.frozen? ⟨w.heap.size, 2, none⟩ = false := HR.out.frozen 2
  have zr3_ : w2.frozen? ⟨w.heap.size, 3, none⟩ = false := HR.out.frozen 3
  have zr4_ : w2.frozen? ⟨w.heap.size, 4, none⟩ = false := HR.out.frozen 4
  have ltR_ := HR.out.lt
  have cb0_ : w2.cell? ⟨p, 0, none⟩ = some (.slice A 0 c) := HCB.out.cell 0
  have ltCB_ := HCB.out.lt
  go_wp2_with fail
  have hlO : ∀ k, A.map (·.block) = some k → ¬ k = w.heap.size := fun k hk => by have := (HC.out.lt.2 k (by rw [← HG.out]; exact hk)).1; omega
  have NO_ := Lib.hid (own_to HO.out (Chg.set1 w2 w.heap.size 4 (.int .u64 sv)) hlO)
  clear HO
  have hc_ : Chg (· = w.heap.size) w2 ((w2).setCell ⟨w.heap.size, 4, none⟩ (.int .u64 sv)) := Chg.setCell (w2) ⟨w.heap.size, 4, none⟩ (.int .u64 sv)
  have NR_ := Lib.hid (show Blk ((w2).setCell ⟨w.heap.size, 4, none⟩ (.int .u64 sv)) w.heap.size 30 #[.int .i64 v.t, .int .i64 v.e, .int .u64 v.b, .int .u64 v.d, .int .u64 sv] from (HR.out).set_ 4 (.int .u64 sv))
  have TCB_ := Lib.hid (HCB.out.chg hc_ (by omega))
  have TB_ := Lib.hid (HB.out.trans (hc_.below (B := w.heap.size) (fun k e => by omega) HB.out.size))
  clear r0_ r1_ r2_ r3_ r4_ zr0_ zr1_ zr2_ zr3_ zr4_ ltR_ cb0_ ltCB_
  clear HB HCB
  have HCB := Lib.hid TCB_.out
  have HB := Lib.hid TB_.out
  clear TB_ TCB_
  obtain ⟨w3, hw_⟩ : ∃ w', (w2).setCell ⟨w.heap.size, 4, none⟩ (.int .u64 sv) = w' := ⟨_, rfl⟩
  rw [hw_] at NR_ HB HCB NO_ ⊢
  clear HR
  have HR := Lib.hid NR_.out
  clear hw_ hc_ NR_
  have r0_ : w3.cell? ⟨w.heap.size, 0, none⟩ = some (.int .i64 v.t) := HR.out.cell 0
  have r1_ : w3.cell? ⟨w.heap.size, 1, none⟩ = some (.int .i64 v.e) := HR.out.cell 1
  have r2_ : w3.cell? ⟨w.heap.size, 2, none⟩ = some (.int .u64 v.b) := HR.out.cell 2
  have r3_ : w3.cell? ⟨w.heap.size, 3, none⟩ = some (.int .u64 v.d) := HR.out.cell 3
  have r4_ : w3.cell? ⟨w.heap.size, 4, none⟩ = some (.int .u64 sv) := HR.out.cell 4
  have ltR_ := HR.out.lt
  have cb0_ : w3.cell? ⟨p, 0, none⟩ = some (.slice A 0 c) := HCB.out.cell 0
  have ltCB_ := HCB.out.lt
  have hzp : ¬ p = w.heap.size := by omega
  have hneP := own_ne NO_.out HCB.out (by decide)
  have HO := Lib.hid (show w3.ownsRow B 30 5 (.slice A 0 c) 0 (Hi.vals []) from NO_.out)
  clear NO_
  go_region_law (first
      | (refine step_app 1 (Hi.vals [⟨v.t, v.e, v.b, v.d, sv⟩]) rfl rfl slRec (base := B) (own_al HO.out _) (by rfl) (Rd.block (heap_alloc_new _ _) (by intro j u hj; simpa using hj)) rfl rfl (by intro u hu; simp at hu; rcases hu with rfl | rfl | rfl | rfl | rfl <;> rfl) (by unfold maxLen; omega) (by have := HC.out.lt.1; have := HB.out.size; simp; omega) rfl (by first | rfl | (rw [Hi.vals_append]; rfl)) ?_
         intro A4 c4 w4 hown4 hbel4 hgr4 hd4
         rw [ownBlock_slice] at hgr4 hd4
         rw [ownBlock_slice] at hd4
         have hch := Chg.grown hgr4
         have hC4 := (Blk.drew (Blk.alloc HCB.out _)).chg hch (fun h => hneP h.symm)
         have hR4 := (Blk.drew (Blk.alloc HR.out _)).chg hch (fun h => hlO _ h.symm rfl)
         have HCH4 := Lib.hid ((Chg.of_below (HB.out.alloc HB.out.size _).drew (fun k => k = p ∨ some k = g)).trans hch (fun k hk h => .inr (h.trans HG.out)))
         have HC4 := Lib.hid hC4
         have r44 : w4.cell? ⟨w.heap.size, 4, none⟩ = some (.int .u64 sv) := hR4.cell 4
         have p40 : w4.cell? ⟨p, 0, none⟩ = some (.slice A 0 c) := hC4.cell 0
         have z40 : w4.frozen? ⟨p, 0, none⟩ = false := hC4.frozen 0
         have HO4 := Lib.hid hown4
         have HD4 := Lib.hid hd4
         clear hd4 hch hC4 hR4 hown4 hbel4 hgr4))
  all_goals go_wp2
  all_goals
    go_ret2
    have hne4 := own_ne HO4.out HC4.out (by decide)
    have hs4 := Chg.set1 w4 p 0 (.slice A4 1 c4)
    refine ⟨rfl, A4.map (·.block), ⟨hB, A4, c4, ?_, ?_, rfl⟩, HCH4.out.trans hs4 (fun k _ hk => .inl hk), ?_⟩
    · have hb4 := HC4.out.set_ 0 (.slice A4 1 c4)
      exact hb4
    · have ho4 := own_to HO4.out hs4 (fun k hk e => hne4 (hk.trans (congrArg some e)))
      unfold OwnV
      exact ho4
    · rcases HD4.out with e | e
      · exact .inl (by rw [e]; exact HG.out)
      · exact .inr ⟨_, e, by have := HB.out.size; simp; omega⟩


theorem append_any (w : World) (B p : Nat) (g : Option Nat) (l : List Hi.V) (v : Hi.V) (h : ChAt w B p g l) (hl : l.length ≤ 10000) :
    Calls Try.prog 21 #[.pointer (some ⟨p, 0, none⟩), .int .i64 v.t, .int .i64 v.e, .int .u64 v.b, .int .u64 v.d] w fun e w' => e = .returned (.tuple #[.int .u64 (Hi.appS l v), .int .i64 (Hi.errA l v)]) ∧ ChTo w w' B p g (Hi.appL l v) := by
  cases hr : (Hi.rg v.t && Hi.rg v.e) with
  | false => exact append_range w B p g l v h hl hr
  | true =>
    have h1 : Hi.rg v.t = true := by cases hx : Hi.rg v.t <;> simp_all
    have h2 : Hi.rg v.e = true := by cases hx : Hi.rg v.e <;> simp_all
    by_cases h0 : l.length = 0
    · exact append_first w B p g l v h hl h1 h2 h0
    · obtain ⟨m, hm⟩ : ∃ m, l.length = m + 1 := ⟨l.length - 1, by omega⟩
      by_cases hlt : v.t < (l[m]'(by omega)).t ∨ v.e < (l[m]'(by omega)).e
      · exact append_old w B p g l v h hl h1 h2 m hm hlt
      · cases hd : Hi.same (l[m]'(by omega)) v with
        | true => exact append_dup w B p g l v h hl h1 h2 m hm hlt hd
        | false => exact append_new w B p g l v h hl h1 h2 m hm hlt hd
end Go.Proofs.Ytgmhcfhmpjpomaa
