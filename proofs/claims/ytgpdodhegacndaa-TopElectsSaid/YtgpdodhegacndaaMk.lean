/- slices.Sorted(maps.Keys(m)) at this program, by the library's contracts. The tables are printed by layplain.py. -/
import Derived.Shelf.SlIterI.Sorted
import Derived.Shelf.SortM.Plain
import Derived.Shelf.SortM.SortNone
import Derived.Ground.GgzProg
import Derived.Ground.SlgmProg
import Derived.Test.YtgpdodhegacndaaMp
import Derived.Test.YtgpdodhegacndaaProg
set_option linter.unusedSimpArgs false
set_option linter.unusedVariables false
namespace Go.Proofs
open Go.RowKit Go.Maps Go.Sort Go.Shelf
def Try.keysA_ren : Go.Shelf.Ren := ⟨fun | 7 => 33 | 10 => 45 | n => n, fun | 23 => 82 | 26 => 3 | 3 => 23 | 28 => 85 | 0 => 0 | 27 => 84 | 33 => 39 | 4 => 4 | n => n, fun | n => n⟩
theorem Try.keysA : Go.Proofs.SlLaysZI.n7 Try.prog Try.keysA_ren := {
  mixed := by kernel_rfl
  f7 := ⟨Try.f33.name, by decide, Try.func33.trans (congrArg some (by kernel_rfl))⟩
  f10 := ⟨Try.f45.name, by decide, Try.func45.trans (congrArg some (by kernel_rfl))⟩
  t0 := Try.underlying0
  a0 := Try.isAgg0
  z0 := Try.sizeOf0
  v0 := Try.zeroValue0
  t4 := Try.underlying4
  a4 := Try.isAgg4
  z4 := Try.sizeOf4
  v4 := Try.zeroValue4
  t23 := Try.underlying82
  a23 := Try.isAgg82
  z23 := Try.sizeOf82
  v23 := Try.zeroValue82
  t26 := Try.underlying3
  a26 := Try.isAgg3
  z26 := Try.sizeOf3
  v26 := Try.zeroValue3
  t27 := Try.underlying84
  a27 := Try.isAgg84
  z27 := Try.sizeOf84
  v27 := Try.zeroValue84
  t28 := Try.underlying85
  a28 := Try.isAgg85
  z28 := Try.sizeOf85
  v28 := Try.zeroValue85
  t33 := Try.underlying39
  a33 := Try.isAgg39
  z33 := Try.sizeOf39
  v33 := Try.zeroValue39 }

def Try.sortedA_ren : Go.Shelf.Ren := ⟨fun | 6 => 32 | 8 => 43 | 9 => 44 | 11 => 54 | 13 => 56 | 12 => 55 | 23 => 67 | 24 => 68 | 14 => 58 | 15 => 59 | 16 => 60 | 17 => 61 | 18 => 62 | 19 => 63 | 20 => 64 | 21 => 65 | 22 => 66 | 25 => 69 | 26 => 70 | 27 => 71 | 28 => 72 | 29 => 73 | 30 => 74 | 31 => 75 | n => n, fun | 26 => 3 | 28 => 85 | 24 => 23 | 0 => 0 | 3 => 3 | 37 => 96 | 48 => 125 | 50 => 51 | 4 => 4 | 40 => 117 | 39 => 116 | 45 => 122 | 5 => 5 | 9 => 9 | 51 => 127 | 55 => 131 | 57 => 133 | 58 => 134 | 33 => 39 | n => n, fun | n => n⟩
theorem Try.sortedA : Go.Proofs.SlLaysZI.n6 Try.prog Try.sortedA_ren := {
  mixed := by kernel_rfl
  f6 := ⟨Try.f32.name, by decide, Try.func32.trans (congrArg some (by kernel_rfl))⟩
  f8 := ⟨Try.f43.name, by decide, Try.func43.trans (congrArg some (by kernel_rfl))⟩
  f11 := ⟨Try.f54.name, by decide, Try.func54.trans (congrArg some (by kernel_rfl))⟩
  t0 := Try.underlying0
  a0 := Try.isAgg0
  z0 := Try.sizeOf0
  v0 := Try.zeroValue0
  t24 := Try.underlying23
  a24 := Try.isAgg23
  z24 := Try.sizeOf23
  v24 := Try.zeroValue23
  t26 := Try.underlying3
  a26 := Try.isAgg3
  z26 := Try.sizeOf3
  v26 := Try.zeroValue3
  t28 := Try.underlying85
  a28 := Try.isAgg85
  z28 := Try.sizeOf85
  v28 := Try.zeroValue85
  i26 := by kernel_rfl }

def Try.sortA_ren : Go.Shelf.Ren := ⟨fun | 5 => 44 | 8 => 56 | 7 => 55 | 19 => 67 | 20 => 68 | 10 => 58 | 11 => 59 | 12 => 60 | 13 => 61 | 14 => 62 | 15 => 63 | 16 => 64 | 17 => 65 | 18 => 66 | 30 => 69 | 31 => 70 | 32 => 71 | 33 => 72 | 34 => 73 | 35 => 74 | 40 => 75 | n => n, fun | 23 => 23 | 25 => 3 | 3 => 3 | 32 => 96 | 22 => 23 | 0 => 0 | 44 => 125 | 46 => 51 | 4 => 4 | 36 => 117 | 35 => 116 | 41 => 122 | 5 => 5 | 9 => 9 | 53 => 127 | 57 => 131 | 63 => 133 | 64 => 134 | n => n, fun | n => n⟩
theorem Try.sortA : Go.Proofs.SlLaysM.n5 Try.prog Try.sortA_ren := {
  mixed := by kernel_rfl
  f5 := ⟨Try.f44.name, by decide, Try.func44.trans (congrArg some (by kernel_rfl))⟩
  f7 := ⟨Try.f55.name, by decide, Try.func55.trans (congrArg some (by kernel_rfl))⟩
  f8 := Try.func56.trans (congrArg some (by kernel_rfl))
  f10 := ⟨Try.f58.name, by decide, Try.func58.trans (congrArg some (by kernel_rfl))⟩
  f11 := ⟨Try.f59.name, by decide, Try.func59.trans (congrArg some (by kernel_rfl))⟩
  f12 := ⟨Try.f60.name, by decide, Try.func60.trans (congrArg some (by kernel_rfl))⟩
  f13 := ⟨Try.f61.name, by decide, Try.func61.trans (congrArg some (by kernel_rfl))⟩
  f14 := ⟨Try.f62.name, by decide, Try.func62.trans (congrArg some (by kernel_rfl))⟩
  f15 := ⟨Try.f63.name, by decide, Try.func63.trans (congrArg some (by kernel_rfl))⟩
  f16 := ⟨Try.f64.name, by decide, Try.func64.trans (congrArg some (by kernel_rfl))⟩
  f17 := ⟨Try.f65.name, by decide, Try.func65.trans (congrArg some (by kernel_rfl))⟩
  f18 := ⟨Try.f66.name, by decide, Try.func66.trans (congrArg some (by kernel_rfl))⟩
  f19 := Try.func67.trans (congrArg some (by kernel_rfl))
  f20 := Try.func68.trans (congrArg some (by kernel_rfl))
  f30 := ⟨Try.f69.name, by decide, Try.func69.trans (congrArg some (by kernel_rfl))⟩
  f31 := Try.func70.trans (congrArg some (by kernel_rfl))
  f32 := Try.func71.trans (congrArg some (by kernel_rfl))
  f33 := ⟨Try.f72.name, by decide, Try.func72.trans (congrArg some (by kernel_rfl))⟩
  f34 := ⟨Try.f73.name, by decide, Try.func73.trans (congrArg some (by kernel_rfl))⟩
  f35 := ⟨Try.f74.name, by decide, Try.func74.trans (congrArg some (by kernel_rfl))⟩
  f40 := ⟨Try.f75.name, by decide, Try.func75.trans (congrArg some (by kernel_rfl))⟩
  t0 := Try.underlying0
  a0 := Try.isAgg0
  z0 := Try.sizeOf0
  v0 := Try.zeroValue0
  t3 := Try.underlying3
  a3 := Try.isAgg3
  z3 := Try.sizeOf3
  v3 := Try.zeroValue3
  t4 := Try.underlying4
  a4 := Try.isAgg4
  z4 := Try.sizeOf4
  v4 := Try.zeroValue4
  t5 := Try.underlying5
  a5 := Try.isAgg5
  z5 := Try.sizeOf5
  v5 := Try.zeroValue5
  t9 := Try.underlying9
  a9 := Try.isAgg9
  z9 := Try.sizeOf9
  v9 := Try.zeroValue9
  t22 := Try.underlying23
  a22 := Try.isAgg23
  z22 := Try.sizeOf23
  v22 := Try.zeroValue23
  t23 := Try.underlying23
  a23 := Try.isAgg23
  z23 := Try.sizeOf23
  v23 := Try.zeroValue23
  t25 := Try.underlying3
  a25 := Try.isAgg3
  z25 := Try.sizeOf3
  v25 := Try.zeroValue3
  t32 := Try.underlying96
  a32 := Try.isAgg96
  z32 := Try.sizeOf96
  v32 := Try.zeroValue96
  t35 := Try.underlying116
  a35 := Try.isAgg116
  z35 := Try.sizeOf116
  v35 := Try.zeroValue116
  t36 := Try.underlying117
  a36 := Try.isAgg117
  z36 := Try.sizeOf117
  v36 := Try.zeroValue117
  t41 := Try.underlying122
  a41 := Try.isAgg122
  z41 := Try.sizeOf122
  v41 := Try.zeroValue122
  t44 := Try.underlying125
  a44 := Try.isAgg125
  z44 := Try.sizeOf125
  v44 := Try.zeroValue125
  t46 := Try.underlying51
  a46 := Try.isAgg51
  z46 := Try.sizeOf51
  v46 := Try.zeroValue51
  t53 := Try.underlying127
  a53 := Try.isAgg127
  z53 := Try.sizeOf127
  v53 := Try.zeroValue127
  t57 := Try.underlying131
  a57 := Try.isAgg131
  z57 := Try.sizeOf131
  v57 := Try.zeroValue131
  t63 := Try.underlying133
  a63 := Try.isAgg133
  z63 := Try.sizeOf133
  v63 := Try.zeroValue133
  t64 := Try.underlying134
  a64 := Try.isAgg134
  z64 := Try.sizeOf134
  v64 := Try.zeroValue134 }

end Go.Proofs
namespace Go.Proofs.Ytgpdodhegacndaa
open Go.RowKit Go.Maps Go.Sort Go.Shelf
theorem sortsI (m : Nat) : AnyZI.SortsIn Try.prog Try.sortedA_ren Fence.wide m :=
  ⟨fun blk off cap ss W hH hblk hsz => callsIn_wide.2 (AnyM.slices_Sort_int Try.sortA blk off cap ss W hH hblk hsz),
   fun p cap W => callsIn_wide.2 (AnyM.slices_Sort_int_none Try.sortA p cap W)⟩
theorem keysI_any (mb : Option Nat) (w : World) : Calls Try.prog 33 #[.map mb] w fun e w' => e = .returned (.func (.func 45) #[] #[.pointer (some ⟨w.heap.size, 0, none⟩)]) ∧ w' = w.alloc (.cells #[.map mb] 82) :=
  (callsIn_wide (n := 5)).1 (AnyZI.keys_in Try.keysA Fence.wide 5 trivial rfl mb w)
theorem keysB_any (mb : Option Nat) (w : World) : Calls Try.prog 33 #[.map mb] w fun e w' => ∃ g, e = .returned (.func (.func 45) #[] #[.pointer (some ⟨g, 0, none⟩)]) ∧ w'.cell? ⟨g, 0, none⟩ = some (.map mb) ∧ Below w.heap.size w w' := by
  refine (keysI_any mb w).mono ?_
  rintro e w' ⟨rfl, rfl⟩
  exact ⟨_, rfl, by simp, Below.alloc (Below.refl w.heap.size w) (Nat.le_refl _) _⟩
/-- the keys of a map, sorted -/
theorem sortedI_any (w : World) (gm b n : Nat) (M : Int → Option Value) (hm : w.cell? ⟨gm, 0, none⟩ = some (.map (some b))) (hM : Mp.MapI Try.prog w 3 .i64 b n M) (hn : n ≤ 100000) :
    Calls Try.prog 32 #[.func (.func 45) #[] #[.pointer (some ⟨gm, 0, none⟩)]] w fun e w' => ∃ (A : Option Addr) (c : Nat) (ss : List Int), e = .returned (.slice A ss.length c) ∧ (∀ x, (Lit.int .i64 x).wf = true → (x ∈ ss ↔ M x ≠ none)) ∧ (∀ x ∈ ss, (Lit.int .i64 x).wf = true) ∧ ss.length ≤ n ∧
      w'.ownsRow w.heap.size 3 1 (.slice A ss.length c) ss.length (ss.map (.int .i64)) ∧ Below w.heap.size w w' := by
  obtain ⟨D, hown, hS⟩ := hM
  have hsz := hown.size_le
  have K : Keyed Try.prog 3 := int_keyed Try.underlying3
  have hseq : SeqGives Fence.wide 2 Try.prog 45 #[.pointer (some ⟨gm, 0, none⟩)] encZ (fun ss => ss.Perm (intKeys D)) (Maps.size D) w :=
    AnyZI.keys_gives (ρ := Try.keysA_ren) { Try.keysA with } Fence.wide _ trivial rfl (by omega) gm b n D w (World.block_lt_of_cell? _ _ hm) hm hown
  have cS := AnyZI.sorted_in Try.sortedA Fence.wide 5 trivial trivial trivial trivial rfl (by omega) (sortsI _) (enters_of Try.func44 (by kernel_rfl) rfl) 45 #[.pointer (some ⟨gm, 0, none⟩)] trivial (enters_of Try.func45 (by kernel_rfl) rfl) _ _ (by unfold maxLen; omega) (by omega) _ hseq
  refine ((callsIn_wide (n := 5)).1 cS).mono ?_
  rintro e w' ⟨v, ss, rfl, hP, hrow, hnil, hb⟩
  have hkeys : ∀ x, x ∈ intKeys D ↔ Maps.has D (.int .i64 x) = true := by
    obtain ⟨es, hD, hko⟩ := hown.keysOf
    intro x
    subst hD
    rw [Maps.has_eq, List.any_eq_true]
    show x ∈ es.map (fun p => Go.intOf p.1) ↔ _
    rw [List.mem_map]
    constructor
    · rintro ⟨p, hp, rfl⟩
      obtain ⟨v, hv⟩ := hko p hp
      obtain ⟨a, _, ha, _⟩ := Maps.keyOf_i64 Try.underlying3 hv
      exact ⟨p, hp, by rw [ha]; simp [Lit.sameKey, Go.intOf]⟩
    · rintro ⟨p, hp, hs⟩
      obtain ⟨v, hv⟩ := hko p hp
      obtain ⟨a, _, ha, _⟩ := Maps.keyOf_i64 Try.underlying3 hv
      rw [ha] at hs
      exact ⟨p, hp, by rw [ha]; simpa [Lit.sameKey, Go.intOf] using hs⟩
  have hperm := (List.mergeSort_perm ss (fun x y => decide (x ≤ y)))
  have hmem : ∀ x, x ∈ ss.mergeSort (fun x y => decide (x ≤ y)) ↔ Maps.has D (.int .i64 x) = true := fun x => by rw [hperm.mem_iff, hP.mem_iff]; exact hkeys x
  have hlen : (ss.mergeSort (fun x y => decide (x ≤ y))).length = ss.length := hperm.length_eq
  have hl2 : ss.length ≤ n := by
    have h1 := hP.length_eq
    obtain ⟨es, hD, _⟩ := hown.entries K
    have h2 : (intKeys D).length = Maps.size D := by subst hD; simp [intKeys, Maps.size]
    omega
  have hv : ∃ A c, v = .slice A ss.length c := by
    rcases hrow.2 with ⟨rfl, hz⟩ | ⟨gb, cap, cur, rfl, _⟩
    · have : ss = [] := hnil.1 rfl
      exact ⟨none, 0, by rw [this]; rfl⟩
    · exact ⟨_, _, rfl⟩
  obtain ⟨A, c, rfl⟩ := hv
  refine ⟨A, c, ss.mergeSort (fun x y => decide (x ≤ y)), by rw [hlen], fun x hx => ?_, fun x hx => ?_, by omega, by rw [hlen]; exact hrow, hb⟩
  · rw [hmem x]
    cases hMx : M x with
    | none => rw [Maps.has_false_of_atKey ((hS x hx).2 hMx)]; simp
    | some u => rw [Maps.has_true_of_atKey ((hS x hx).1 u hMx)]; simp
  · exact intKeys_wf hown Try.underlying3 x (hP.mem_iff.1 (hperm.mem_iff.1 hx))
end Go.Proofs.Ytgpdodhegacndaa
