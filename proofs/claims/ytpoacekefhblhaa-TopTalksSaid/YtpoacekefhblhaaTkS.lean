/- TopTalks: the library's sort and Compact at this program. The tables are printed by layplain.py. -/
import Derived.Shelf.Sort.Plain
import Derived.Shelf.Slices.CompactI
import Derived.Shelf.Slices.In.SortNone
import Derived.Test.YtpoacekefhblhaaLib
import Derived.Test.YtpoacekefhblhaaProg
namespace Go.Proofs.Ytpoacekefhblhaa
set_option linter.unusedSimpArgs false
set_option linter.unusedVariables false
open Go.Shelf
def Try.lays189_ren : Go.Shelf.Ren := ⟨fun | 189 => 39 | 125 => 42 | 257 => 41 | 128 => 52 | 129 => 53 | 294 => 43 | 295 => 44 | 296 => 45 | 297 => 46 | 298 => 47 | 299 => 48 | 216 => 49 | 300 => 50 | 301 => 51 | 328 => 54 | 329 => 55 | 330 => 56 | 331 => 57 | 332 => 58 | 215 => 59 | 343 => 60 | n => n, fun | 28 => 42 | 3 => 3 | 46 => 78 | 0 => 0 | 51 => 91 | 53 => 50 | 4 => 4 | 183 => 83 | 182 => 82 | 131 => 88 | 5 => 5 | 9 => 9 | 218 => 93 | 222 => 97 | 228 => 99 | 229 => 38 | n => n, fun | n => n⟩
theorem Try.lays189 : Go.Proofs.Lays.n189 Try.prog Try.lays189_ren := {
  mixed := by kernel_rfl
  f125 := Try.func42.trans (congrArg some (by kernel_rfl))
  f128 := Try.func52.trans (congrArg some (by kernel_rfl))
  f129 := Try.func53.trans (congrArg some (by kernel_rfl))
  f189 := Try.func39.trans (congrArg some (by kernel_rfl))
  f215 := Try.func59.trans (congrArg some (by kernel_rfl))
  f216 := Try.func49.trans (congrArg some (by kernel_rfl))
  f257 := Try.func41.trans (congrArg some (by kernel_rfl))
  f294 := Try.func43.trans (congrArg some (by kernel_rfl))
  f295 := Try.func44.trans (congrArg some (by kernel_rfl))
  f296 := Try.func45.trans (congrArg some (by kernel_rfl))
  f297 := Try.func46.trans (congrArg some (by kernel_rfl))
  f298 := Try.func47.trans (congrArg some (by kernel_rfl))
  f299 := Try.func48.trans (congrArg some (by kernel_rfl))
  f300 := Try.func50.trans (congrArg some (by kernel_rfl))
  f301 := Try.func51.trans (congrArg some (by kernel_rfl))
  f328 := Try.func54.trans (congrArg some (by kernel_rfl))
  f329 := Try.func55.trans (congrArg some (by kernel_rfl))
  f330 := Try.func56.trans (congrArg some (by kernel_rfl))
  f331 := Try.func57.trans (congrArg some (by kernel_rfl))
  f332 := Try.func58.trans (congrArg some (by kernel_rfl))
  f343 := Try.func60.trans (congrArg some (by kernel_rfl))
  t0 := Try.underlying0
  a0 := Try.isAgg0
  z0 := Try.sizeOf0
  v0 := Try.zeroValue0
  t3 := Try.underlying3
  a3 := Try.isAgg3
  z3 := Try.sizeOf3
  v3 := Try.zeroValue3
  t4 := Try.underlying4
  a4 := Try.isAgg4
  z4 := Try.sizeOf4
  v4 := Try.zeroValue4
  t5 := Try.underlying5
  a5 := Try.isAgg5
  z5 := Try.sizeOf5
  v5 := Try.zeroValue5
  t9 := Try.underlying9
  a9 := Try.isAgg9
  z9 := Try.sizeOf9
  v9 := Try.zeroValue9
  t28 := Try.underlying42
  a28 := Try.isAgg42
  z28 := Try.sizeOf42
  v28 := Try.zeroValue42
  t46 := Try.underlying78
  a46 := Try.isAgg78
  z46 := Try.sizeOf78
  v46 := Try.zeroValue78
  t51 := Try.underlying91
  a51 := Try.isAgg91
  z51 := Try.sizeOf91
  v51 := Try.zeroValue91
  t53 := Try.underlying50
  a53 := Try.isAgg50
  z53 := Try.sizeOf50
  v53 := Try.zeroValue50
  t131 := Try.underlying88
  a131 := Try.isAgg88
  z131 := Try.sizeOf88
  v131 := Try.zeroValue88
  t182 := Try.underlying82
  a182 := Try.isAgg82
  z182 := Try.sizeOf82
  v182 := Try.zeroValue82
  t183 := Try.underlying83
  a183 := Try.isAgg83
  z183 := Try.sizeOf83
  v183 := Try.zeroValue83
  t218 := Try.underlying93
  a218 := Try.isAgg93
  z218 := Try.sizeOf93
  v218 := Try.zeroValue93
  t222 := Try.underlying97
  a222 := Try.isAgg97
  z222 := Try.sizeOf97
  v222 := Try.zeroValue97
  t228 := Try.underlying99
  a228 := Try.isAgg99
  z228 := Try.sizeOf99
  v228 := Try.zeroValue99
  t229 := Try.underlying38
  a229 := Try.isAgg38
  z229 := Try.sizeOf38
  v229 := Try.zeroValue38 }

def Try.lays220_ren : Go.Shelf.Ren := ⟨fun | 20 => 40 | n => n, fun | 22 => 42 | 3 => 3 | 4 => 4 | 0 => 0 | n => n, fun | n => n⟩
theorem Try.lays220 : Go.Proofs.Lays2.n20 Try.prog Try.lays220_ren := {
  mixed := by kernel_rfl
  f20 := Try.func40.trans (congrArg some (by kernel_rfl))
  t0 := Try.underlying0
  a0 := Try.isAgg0
  z0 := Try.sizeOf0
  v0 := Try.zeroValue0
  t3 := Try.underlying3
  a3 := Try.isAgg3
  z3 := Try.sizeOf3
  v3 := Try.zeroValue3
  t4 := Try.underlying4
  a4 := Try.isAgg4
  z4 := Try.sizeOf4
  v4 := Try.zeroValue4
  t22 := Try.underlying42
  a22 := Try.isAgg42
  z22 := Try.sizeOf42
  v22 := Try.zeroValue42
  i3 := by kernel_rfl }

open Go.Sort Go.RowKit
section
variable {w w' : World}
theorem holds_own {base c g : Nat} {e : TypeId} {l : List Int} (h : w.ownsRow base e 1 (.slice (some ⟨g, 0, none⟩) l.length c) l.length (l.map (Value.int .i64))) : Holds (Value.int .i64) w g 0 l.toArray ∧ g < w.heap.size ∧ l.length ≤ c := by
  rcases h.2 with ⟨h1, _⟩ | ⟨g', cap, cur, h1, hb, hh, h2, h3, h4, h5⟩
  · cases h1
  · injection h1 with a b d; injection a with a; injection a with a; subst a d
    refine ⟨fun j hj => ?_, (Array.getElem?_eq_some_iff.1 hh).1, h2⟩
    have hj' : j < l.length := by simpa using hj
    have hc : cur[j]? = some (Value.int .i64 l[j]) := by
      have : (cur.toList.take (l.length * 1))[j]? = some (Value.int .i64 l[j]) := by rw [h5]; simp [hj']
      rw [List.getElem?_take] at this
      split at this
      · simpa using this
      · cases this
    have hs : j < cur.size := (Array.getElem?_eq_some_iff.1 hc).1
    refine ⟨?_, ?_⟩
    · rw [getElem!_pos l.toArray j hj]
      simp [World.cell?, hh, hc]
    · simp [World.frozen?, hh]
/-- what a turned row is -/
theorem own_put {base c g n q : Nat} {e : TypeId} {l l' : List Int} {os : Array Obj} (h : w.ownsRow base e 1 (.slice (some ⟨g, 0, none⟩) l.length c) l.length (l.map (Value.int .i64))) (hl : l'.length = l.length) (he : w' = Sort.grow (putRow (Value.int .i64) (Sort.ahead w q) g 0 l'.toArray) os) (hn : n ≤ l.length) :
    w'.ownsRow base e 1 (.slice (some ⟨g, 0, none⟩) n c) n ((l'.take n).map (Value.int .i64)) ∧ Chg (· = g) w w' := by
  rcases h.2 with ⟨h1, _⟩ | ⟨g', cap, cur, h1, hb, hh, h2, h3, h4, h5⟩
  · cases h1
  · injection h1 with a b d; injection a with a; injection a with a; subst a d
    have hg : g < w.heap.size := (Array.getElem?_eq_some_iff.1 hh).1
    subst he
    have hb' : (Sort.grow (putRow (Value.int .i64) (Sort.ahead w q) g 0 l'.toArray) os).heap[g]? = some (.cells (putCells (Value.int .i64) 0 l'.toArray cur) e (0, 0)) := by
      show ((w.heap.modify g (onCells _)) ++ os)[g]? = _
      rw [Array.getElem?_append_left (by simpa using hg), Array.getElem?_modify, if_pos rfl, hh]; rfl
    refine ⟨⟨by simp; omega, .inr ⟨g, c, _, rfl, hb, hb', by omega, h3, by simp [putCells, h4], ?_⟩⟩, ⟨rfl, rfl, rfl, ?_, fun k hk hne => ?_⟩⟩
    · apply List.ext_getElem?
      intro j
      rw [List.getElem?_take, List.getElem?_map, List.getElem?_take]
      by_cases hj : j < n
      · rw [if_pos (by omega), if_pos hj]
        have hjc : j < cur.size := by omega
        have hjl : j < l'.length := by omega
        simp only [putCells, Array.getElem?_toList, Array.getElem?_mapIdx, Array.getElem?_eq_getElem hjc, List.getElem?_eq_getElem hjl, Option.map_some]
        rw [if_pos ⟨Nat.zero_le _, by simpa using hjl⟩]
        simp [hjl]
      · rw [if_neg (by omega), if_neg hj]; rfl
    · show _ ≤ ((w.heap.modify g (onCells _)) ++ os).size
      simp
    · show ((w.heap.modify g (onCells _)) ++ os)[k]? = _
      rw [Array.getElem?_append_left (by simpa using hk), Array.getElem?_modify, if_neg (fun e => hne e.symm)]
theorem mem_compactUpTo {d : Array Int} {x : Int} : ∀ m, m ≤ d.size → (x ∈ Lib.compactUpTo d m ↔ ∃ j, j < m ∧ d[j]! = x)
  | 0, _ => by simp [Lib.compactUpTo]
  | m + 1, hm => by
    rw [Lib.compactUpTo_succ, List.mem_append, mem_compactUpTo m (by omega)]
    cases hk : Lib.keeps d m with
    | true =>
      rw [if_pos rfl, List.mem_singleton]
      constructor
      · rintro (⟨j, hj, e⟩ | e)
        · exact ⟨j, by omega, e⟩
        · exact ⟨m, by omega, e.symm⟩
      · rintro ⟨j, hj, e⟩
        rcases Nat.lt_succ_iff_lt_or_eq.1 hj with hj | hj
        · exact .inl ⟨j, hj, e⟩
        · subst hj; exact .inr e.symm
    | false =>
      rw [if_neg (by decide)]
      have h0 : 0 < m := by
        cases m with
        | zero => rw [Lib.keeps_lt_one d 0 (by omega)] at hk; cases hk
        | succ m => omega
      have he : d[m]! = d[m - 1]! := Classical.byContradiction fun h => by rw [Lib.keeps_pos h] at hk; cases hk
      constructor
      · rintro (⟨j, hj, e⟩ | e)
        · exact ⟨j, by omega, e⟩
        · cases e
      · rintro ⟨j, hj, e⟩
        rcases Nat.lt_succ_iff_lt_or_eq.1 hj with hj | hj
        · exact .inl ⟨j, hj, e⟩
        · subst hj; exact .inl ⟨j - 1, by omega, he ▸ e⟩
theorem mem_compact {l : List Int} {x : Int} : x ∈ Lib.compact l ↔ x ∈ l := by
  unfold Lib.compact
  rw [mem_compactUpTo _ (by simp)]
  constructor
  · rintro ⟨j, hj, e⟩
    rw [getElem!_pos l.toArray j (by simpa using hj)] at e
    rw [← e]; simp
  · intro h
    obtain ⟨j, hj, e⟩ := List.getElem_of_mem h
    exact ⟨j, hj, by rw [getElem!_pos l.toArray j (by simpa using hj)]; simpa using e⟩
theorem compactUpTo_len (d : Array Int) : ∀ m, (Lib.compactUpTo d m).length ≤ m
  | 0 => by simp [Lib.compactUpTo]
  | m + 1 => by
    rw [Lib.compactUpTo_succ, List.length_append]
    have := compactUpTo_len d m
    split <;> simp <;> omega
theorem compact_len (l : List Int) : (Lib.compact l).length ≤ l.length := compactUpTo_len _ _
/-- slices.Sort at []int: the same numbers, in this row -/
theorem sort_any {base c : Nat} {A : Option Addr} {l : List Int} (h : w.ownsRow base 3 1 (.slice A l.length c) l.length (l.map (Value.int .i64))) (hl : l.length ≤ 65536) : Calls Try.prog 39 #[.slice A l.length c] w fun e w' => e = .returned (.tuple #[]) ∧ ∃ l' : List Int, l'.length = l.length ∧ (∀ x, x ∈ l' ↔ x ∈ l) ∧ w'.ownsRow base 3 1 (.slice A l.length c) l.length (l'.map (Value.int .i64)) ∧ Chg (fun k => A.map (·.block) = some k) w w' := by
  by_cases h0 : l.length = 0
  · obtain rfl : l = [] := List.length_eq_zero_iff.1 h0
    refine (Any.slices_Sort_int_none Try.lays189 A c w).mono ?_
    rintro e w' ⟨rfl, rfl⟩
    exact ⟨rfl, [], rfl, fun _ => Iff.rfl, h, Chg.refl _ _⟩
  · rcases h.2 with ⟨_, h1⟩ | ⟨g, cap, cur, h1, rest⟩
    · exact absurd h1 h0
    · injection h1 with a b d; subst a d
      obtain ⟨h2, h3, h4⟩ := holds_own h
      refine (Any.slices_Sort_int Try.lays189 g 0 c l w h2 h3 (by omega)).mono ?_
      rintro e w' ⟨rfl, n, os, he⟩
      have := own_put (n := l.length) h (l' := l.mergeSort fun x y => decide (x ≤ y)) (by simp) he (Nat.le_refl _)
      rw [List.take_of_length_le (by simp)] at this
      exact ⟨rfl, _, by simp, fun x => by simp, this.1, this.2.mono fun k _ e => by rw [e]; rfl⟩
theorem compact_any {base c : Nat} {A : Option Addr} {l : List Int} (h : w.ownsRow base 3 1 (.slice A l.length c) l.length (l.map (Value.int .i64))) (hl : l.length ≤ 65536) : Calls Try.prog 40 #[.slice A l.length c] w fun e w' => ∃ l' : List Int, e = .returned (.slice A l'.length c) ∧ l'.length ≤ l.length ∧ (∀ x, x ∈ l' ↔ x ∈ l) ∧ w'.ownsRow base 3 1 (.slice A l'.length c) l'.length (l'.map (Value.int .i64)) ∧ Chg (fun k => A.map (·.block) = some k) w w' := by
  by_cases h0 : l.length = 0
  · obtain rfl : l = [] := List.length_eq_zero_iff.1 h0
    refine (Any.slices_Compact_int_empty Try.lays220 A c w).mono ?_
    rintro e w' ⟨rfl, rfl⟩
    exact ⟨[], rfl, Nat.le_refl _, fun _ => Iff.rfl, h, Chg.refl _ _⟩
  · rcases h.2 with ⟨_, h1⟩ | ⟨g, cap, cur, h1, rest⟩
    · exact absurd h1 h0
    · injection h1 with a b d; subst a d
      obtain ⟨h2, h3, h4⟩ := holds_own h
      refine (Any.slices_Compact_int Try.lays220 g 0 c l w h2 (by omega) h4).mono ?_
      rintro e w' ⟨rfl, q, he⟩
      have hlen := compact_len l
      have := own_put (n := (Lib.compact l).length) (os := #[]) h (l' := Lib.compact l ++ List.replicate (l.length - (Lib.compact l).length) 0) (by simp; omega) (he.trans (Sort.grow_empty _).symm) hlen
      rw [List.take_left] at this
      exact ⟨_, rfl, hlen, fun x => mem_compact, this.1, this.2.mono fun k _ e => by rw [e]; rfl⟩
end
end Go.Proofs.Ytpoacekefhblhaa
