/- The plain numbers of the checksum: no program is named here. -/
import Derived.WalkKit
import Derived.Laws.Closers25b
namespace Go.Proofs.Ytgpdodhegacndaa.Ck
set_option linter.unusedSimpArgs false
set_option linter.unusedVariables false
open Go

/-- adding one byte, as the model's operations write it -/
def stepI (s b : Int) : Int :=
  bits BinOp.xor IntKind.u64 (IntKind.u64.wrap (bits BinOp.xor IntKind.u64 s (IntKind.u64.wrap b) * 1099511628211))
    (IntKind.u64.wrap (bits BinOp.xor IntKind.u64 s (IntKind.u64.wrap b) * 1099511628211) / 4294967296)
def moreI (s : Int) (l : List Int) : Int := l.foldl stepI s
theorem moreI_take {s : Int} {l : List Int} {k : Nat} (h : k < l.length) : moreI s (l.take (k+1)) = stepI (moreI s (l.take k)) l[k] := by
  unfold moreI; rw [List.take_succ_eq_append_getElem h, List.foldl_append]; rfl
theorem moreI_append (s : Int) (a b : List Int) : moreI s (a ++ b) = moreI (moreI s a) b := by unfold moreI; rw [List.foldl_append]

/-- the i-th byte of an integer, least significant first -/
def byteI (n : Int) (i : Nat) : Int := n / 2 ^ (8 * i) % 256
def bytesI (n : Int) : List Int := (List.range 8).map (byteI n)
def addIntI (s n : Int) : Int := moreI s (bytesI n)
def init : Int := 14695981039346656037

theorem stepI_bd (s b : Int) : 0 ≤ stepI s b ∧ stepI s b < 18446744073709551616 := by
  have := bits_lo_u64 .xor (IntKind.u64.wrap (bits BinOp.xor IntKind.u64 s (IntKind.u64.wrap b) * 1099511628211)) (IntKind.u64.wrap (bits BinOp.xor IntKind.u64 s (IntKind.u64.wrap b) * 1099511628211) / 4294967296)
  have := bits_hi_u64 .xor (IntKind.u64.wrap (bits BinOp.xor IntKind.u64 s (IntKind.u64.wrap b) * 1099511628211)) (IntKind.u64.wrap (bits BinOp.xor IntKind.u64 s (IntKind.u64.wrap b) * 1099511628211) / 4294967296)
  unfold stepI; omega
theorem moreI_bd (l : List Int) : ∀ s : Int, 0 ≤ s ∧ s < 18446744073709551616 → 0 ≤ moreI s l ∧ moreI s l < 18446744073709551616 := by
  induction l with
  | nil => intro s h; exact h
  | cons b l ih => intro s _; exact ih _ (stepI_bd s b)
/-- bytes -/
def Bts (l : List Int) : Prop := ∀ x ∈ l, 0 ≤ x ∧ x < 256
def U64 (s : Int) : Prop := 0 ≤ s ∧ s < 18446744073709551616
theorem Bts.append {a b : List Int} (ha : Bts a) (hb : Bts b) : Bts (a ++ b) := fun x hx => by
  rcases List.mem_append.1 hx with h | h
  · exact ha x h
  · exact hb x h
theorem bytesI_bts (n : Int) : Bts (bytesI n) := fun x hx => by
  simp [bytesI, byteI] at hx
  obtain ⟨a, _, rfl⟩ := hx
  omega
theorem bytesI_length (n : Int) : (bytesI n).length = 8 := by simp [bytesI]
theorem quo256 (n : Int) (k : Nat) (h : U64 n) : IntKind.u64.wrap ((n / 2 ^ (8 * k)).tdiv 256) = n / 2 ^ (8 * (k + 1)) := by
  have h0 : 0 ≤ n / 2 ^ (8 * k) := Int.ediv_nonneg h.1 (Int.le_of_lt (Int.pow_pos (by omega)))
  rw [Int.tdiv_eq_ediv_of_nonneg h0, Int.ediv_ediv_of_nonneg (Int.le_of_lt (Int.pow_pos (by omega)))]
  have e : (2 : Int) ^ (8 * k) * 256 = 2 ^ (8 * (k + 1)) := by rw [Nat.mul_add, Int.pow_add]; rfl
  rw [e, IntKind.wrap_u64]
  have h1 : 0 ≤ n / 2 ^ (8 * (k + 1)) := Int.ediv_nonneg h.1 (Int.le_of_lt (Int.pow_pos (by omega)))
  have h2 : n / 2 ^ (8 * (k + 1)) ≤ n := Int.ediv_le_self _ h.1
  have := h.2
  omega
/-- a record's checksum; integers' checksum -/
def recI (prev kind : Int) (l : List Int) : Int := moreI (addIntI (stepI (addIntI init prev) kind) (l.length : Int)) l
def intsI (l : List Int) : Int := l.foldl (fun s n => addIntI s (IntKind.u64.wrap n)) init
theorem recI_eq (prev kind : Int) (l : List Int) : recI prev kind l = moreI init (bytesI prev ++ [kind] ++ bytesI (l.length : Int) ++ l) := by
  simp only [recI, addIntI, moreI_append]; rfl
def wordsI (l : List Int) : List Int := l.flatMap fun n => bytesI (IntKind.u64.wrap n)
theorem wordsI_take {l : List Int} {k : Nat} (h : k < l.length) : wordsI (l.take (k + 1)) = wordsI (l.take k) ++ bytesI (IntKind.u64.wrap l[k]) := by
  unfold wordsI; rw [List.take_succ_eq_append_getElem h, List.flatMap_append]; simp
theorem wordsI_length (l : List Int) : (wordsI l).length = 8 * l.length := by
  induction l with
  | nil => rfl
  | cons n l ih => simp [wordsI, bytesI] at ih ⊢; omega
theorem wordsI_bts (l : List Int) : Bts (wordsI l) := fun x hx => by
  simp only [wordsI, List.mem_flatMap] at hx
  obtain ⟨a, _, hx⟩ := hx
  exact bytesI_bts _ x hx
theorem intsI_eq (l : List Int) : intsI l = moreI init (wordsI l) := by
  have h : ∀ s, l.foldl (fun s n => addIntI s (IntKind.u64.wrap n)) s = moreI s (wordsI l) := by
    induction l with
    | nil => intro s; simp [wordsI, moreI]
    | cons n l ih =>
      intro s
      have e : wordsI (n :: l) = bytesI (IntKind.u64.wrap n) ++ wordsI l := by simp [wordsI]
      rw [List.foldl_cons, ih, e, moreI_append]; simp only [addIntI]
  exact h _
theorem intsI_take {l : List Int} {k : Nat} (h : k < l.length) : intsI (l.take (k+1)) = addIntI (intsI (l.take k)) (IntKind.u64.wrap l[k]) := by
  unfold intsI; rw [List.take_succ_eq_append_getElem h, List.foldl_append]; simp only [List.foldl_cons, List.foldl_nil]
theorem wrap_U64 (n : Int) : U64 (IntKind.u64.wrap n) := by unfold U64; rw [IntKind.wrap_u64]; omega
theorem moreI_nil : moreI init [] = 14695981039346656037 := by simp only [moreI, List.foldl_nil, init]
theorem intsI_nil : intsI [] = 14695981039346656037 := by simp only [intsI, List.foldl_nil, init]

/-! hexadecimal digits -/
def hexd (d : Nat) : UInt8 := if d < 10 then UInt8.ofNat (48 + d) else UInt8.ofNat (87 + d)
def dig (n i : Nat) : UInt8 := hexd (n / 2 ^ (4 * i) % 16)
def hexs : ByteArray := ⟨#[48, 49, 50, 51, 52, 53, 54, 55, 56, 57, 97, 98, 99, 100, 101, 102]⟩
theorem hexs_at (d : Nat) (h : d < 16) (h' : d < hexs.size) : hexs[d] = hexd d := by
  have : ∀ d : Fin 16, hexs.data[d.val]? = some (hexd d.val) := by decide
  have h2 := this ⟨d, h⟩
  have h3 : hexs.data[d]? = some (hexs[d]) := Array.getElem?_eq_getElem h'
  rw [h3] at h2; exact Option.some.inj h2
theorem and15 (n i : Nat) (h : n < 18446744073709551616) : bits .and .u64 ((n : Int) / 2 ^ (4 * i)) 15 = ((n / 2 ^ (4 * i) % 16 : Nat) : Int) := by
  have := u64_and_nat (n / 2 ^ (4 * i)) 15 (Nat.lt_of_le_of_lt (Nat.div_le_self _ _) h) (by omega)
  rw [show ((15 : Nat) : Int) = 15 from rfl] at this
  push_cast at this ⊢
  rw [this]
  have h2 : n / 2 ^ (4 * i) &&& 15 = n / 2 ^ (4 * i) % 16 := Nat.and_two_pow_sub_one_eq_mod _ 4
  rw [h2]; push_cast; rfl
/-- the cells of Format's array when the k lowest digits are set -/
def fmtCells (n k : Nat) : Array Value := ((List.range 16).map fun p => Value.int .u8 (if 15 - p < k then (dig n (15 - p)).toNat else 0)).toArray
theorem fmtCells_at (n k p : Nat) (hp : p < 16) : (fmtCells n k)[p]? = some (Value.int .u8 (if 15 - p < k then (dig n (15 - p)).toNat else 0)) := by
  simp [fmtCells, hp]
theorem fmtCells_set (n k : Nat) (hk : k < 16) : (fmtCells n k).setIfInBounds (15 - k) (Value.int .u8 (dig n k).toNat) = fmtCells n (k + 1) := by
  apply Array.ext
  · simp [fmtCells]
  · intro i h1 h2
    simp [fmtCells] at h2
    rw [Array.getElem_setIfInBounds (by simpa using h1)]
    by_cases h : 15 - k = i
    · subst h; simp [fmtCells]; rw [if_pos (by omega), show 15 - (15 - k) = k from by omega]
    · simp [fmtCells, h]
      by_cases h' : 15 - i < k
      · rw [if_pos h', if_pos (by omega)]
      · rw [if_neg h', if_neg (by omega)]
/-- the digits as numbers -/
def fmtI (n : Nat) : List Int := (List.range 16).map fun p => ((dig n (15 - p)).toNat : Int)
theorem fmtI_length (n : Nat) : (fmtI n).length = 16 := by simp [fmtI]
theorem fmtI_cells (n j : Nat) (v : Value) (h : ((fmtI n).map (Value.int .u8))[j]? = some v) : (fmtCells n 16)[j]? = some v := by
  by_cases hj : j < 16
  · rw [← h, fmtCells_at n 16 j hj, if_pos (by omega)]; simp [fmtI, hj]
  · rw [List.getElem?_eq_none (by simp [fmtI]; omega)] at h; cases h
/-- the text of a checksum -/
def fmt (n : Nat) : List UInt8 := (List.range 16).map fun p => dig n (15 - p)
theorem fmtI_fmt (n : Nat) : ((fmtI n).map fun n => UInt8.ofNat n.toNat) = fmt n := by
  simp [fmtI, fmt]

/-- Text's loop: k digits done -/
def txt (n k : Nat) : List UInt8 := (List.range k).map fun p => dig n (k - 1 - p)
def Txr (n k m : Nat) (s : ByteArray) : Prop := k ≤ 16 ∧ m = n / 2 ^ (4 * k) ∧ s = ⟨(txt n k).toArray⟩
theorem txt_succ (n k : Nat) : txt n (k + 1) = dig n k :: txt n k := by
  unfold txt
  rw [List.range_succ_eq_map, List.map_cons, List.map_map]
  congr 1
  apply List.map_congr_left
  intro p _
  simp only [Function.comp, Nat.succ_eq_add_one]
  congr 1; omega
theorem txt_fmt (n : Nat) : txt n 16 = fmt n := by simp [txt, fmt]
theorem Txr.next {n k m : Nat} {s : ByteArray} (h : Txr n k m s) (hk : k < 16) : Txr n (k + 1) (m / 16) (⟨#[hexd (m % 16)]⟩ ++ s) := by
  obtain ⟨_, rfl, rfl⟩ := h
  refine ⟨by omega, ?_, ?_⟩
  · rw [Nat.div_div_eq_div_mul, Nat.mul_add, Nat.pow_add]
  · rw [txt_succ]
    have := ByteArray.mk_append_mk [hexd (n / 2 ^ (4 * k) % 16)] (txt n k)
    simpa [dig] using this
theorem Txr.bd {n k m : Nat} {s : ByteArray} (h : Txr n k m s) (hn : n < 18446744073709551616) : m < 18446744073709551616 ∧ s.size ≤ 16 := by
  obtain ⟨hk, rfl, rfl⟩ := h
  exact ⟨Nat.lt_of_le_of_lt (Nat.div_le_self _ _) hn, by show (txt n k).toArray.size ≤ 16; simp [txt, hk]⟩
theorem hexs_cut (d : Nat) (h : d < 16) : hexs.extract d (d + 1) = ⟨#[hexd d]⟩ := by
  have : ∀ d : Fin 16, (hexs.extract d.val (d.val + 1)).data = #[hexd d.val] := by decide
  exact ByteArray.ext (this ⟨d, h⟩)

/-! parsing -/
def hexv (c : Nat) : Option Nat := if 48 ≤ c ∧ c ≤ 57 then some (c - 48) else if 97 ≤ c ∧ c ≤ 102 then some (c - 87) else none
def next (m d : Nat) : Nat := m * 16 % 18446744073709551616 + d
def parseGo : Nat → List UInt8 → Option Nat
  | m, [] => some m
  | m, c :: l => match hexv c.toNat with
    | none => none
    | some d => parseGo (next m d) l
def parse (s : ByteArray) : Option Nat := if s.size = 16 then parseGo 0 s.data.toList else none
theorem hexv_lt {c d : Nat} (h : hexv c = some d) : d < 16 := by
  unfold hexv at h
  split at h
  · injection h; omega
  · split at h
    · injection h; omega
    · cases h
theorem next_lt (m d : Nat) (h : d < 16) : next m d < 18446744073709551616 := by unfold next; omega
theorem parseGo_append (a b : List UInt8) : ∀ m, parseGo m (a ++ b) = (parseGo m a).bind fun m' => parseGo m' b := by
  induction a with
  | nil => intro m; rfl
  | cons c a ih =>
    intro m
    simp only [List.cons_append, parseGo]
    cases hexv c.toNat with
    | none => rfl
    | some d => exact ih _
def Prs (s : ByteArray) (k m : Nat) : Prop := k ≤ 16 ∧ s.size = 16 ∧ parseGo 0 (s.data.toList.take k) = some m ∧ m < 18446744073709551616
theorem Prs.start (s : ByteArray) (h : s.size = 16) : Prs s 0 0 := ⟨by omega, h, by simp [parseGo], by omega⟩
theorem Prs.step {s : ByteArray} {k m d : Nat} (h : Prs s k m) (hk : k < s.size) (hd : hexv s[k].toNat = some d) : Prs s (k + 1) (next m d) := by
  obtain ⟨h0, h1, h2, h3⟩ := h
  refine ⟨by omega, h1, ?_, next_lt _ _ (hexv_lt hd)⟩
  have e : s.data.toList[k]'(by simpa using hk) = s[k] := rfl
  rw [List.take_succ_eq_append_getElem (by simpa using hk), parseGo_append, h2]
  simp only [Option.bind_some, parseGo, e, hd]
theorem Prs.bad {s : ByteArray} {k m : Nat} (h : Prs s k m) (hk : k < s.size) (hd : hexv s[k].toNat = none) : parse s = none := by
  obtain ⟨h0, h1, h2, h3⟩ := h
  have e : s.data.toList[k]'(by simpa using hk) = s[k] := rfl
  unfold parse
  rw [if_pos h1, ← List.take_append_drop k s.data.toList, parseGo_append, h2, List.drop_eq_getElem_cons (by simpa using hk)]
  simp only [Option.bind_some, parseGo, e, hd]
theorem Prs.fin {s : ByteArray} {k m : Nat} (h : Prs s k m) (hk : ¬ k < 16) : parse s = some m := by
  obtain ⟨h0, h1, h2, h3⟩ := h
  unfold parse
  rw [List.take_of_length_le (by show s.size ≤ k; omega)] at h2
  rw [if_pos h1, h2]
/-- what Parse returns -/
def parseN (s : ByteArray) : Int := match parse s with | some m => (m : Int) | none => 0
def parseE (s : ByteArray) : Int := match parse s with | some _ => 0 | none => 2
theorem parse_none {s : ByteArray} (h : parse s = none) : parseN s = 0 ∧ parseE s = 2 := by simp [parseN, parseE, h]
theorem parse_some {s : ByteArray} {m : Nat} (h : parse s = some m) : parseN s = m ∧ parseE s = 0 := by simp [parseN, parseE, h]
theorem hexv_d {c : Nat} (h : 48 ≤ c ∧ c ≤ 57) : hexv c = some (c - 48) := by unfold hexv; rw [if_pos h]
theorem hexv_l {c : Nat} (h : 97 ≤ c ∧ c ≤ 102) : hexv c = some (c - 87) := by unfold hexv; rw [if_neg (by omega), if_pos h]
theorem hexv_n {c : Nat} (h : ¬ (48 ≤ c ∧ c ≤ 57)) (h' : ¬ (97 ≤ c ∧ c ≤ 102)) : hexv c = none := by unfold hexv; rw [if_neg h, if_neg h']
/-- sum<<4 | digit -/
theorem or_next' (m d : Nat) (hd : d < 16) (z : Int) (hz : z = d) : bits .or .u64 (IntKind.u64.wrap ((m : Int) * 16)) z = (next m d : Nat) := by
  subst hz
  have h1 : IntKind.u64.wrap ((m : Int) * 16) = ((m * 16 % 18446744073709551616 : Nat) : Int) := by rw [IntKind.wrap_u64]; omega
  rw [h1, u64_or_nat _ d (by omega) (by omega)]
  unfold next
  have h2 : m * 16 % 18446744073709551616 = 16 * (m % 1152921504606846976) := by omega
  rw [h2]
  have := Nat.two_pow_add_eq_or_of_lt (i := 4) (b := d) hd (m % 1152921504606846976)
  rw [show (2 : Nat) ^ 4 = 16 from rfl] at this
  rw [this]
theorem ref_next (m d : Nat) (hd : d < 16) : IntKind.u64.wrap (IntKind.u64.wrap ((m : Int) * 16) + (d : Int)) = (next m d : Nat) := by
  have h1 : IntKind.u64.wrap ((m : Int) * 16) = ((m * 16 % 18446744073709551616 : Nat) : Int) := by rw [IntKind.wrap_u64]; omega
  rw [h1]
  have := next_lt m d hd
  unfold next at *
  rw [IntKind.wrap_u64]; omega
/-- the inner loop of the reference's Parse: the digits below d are tried -/
def Inn (c m d n : Nat) (f : Bool) : Prop := d ≤ 16 ∧ c < 256 ∧ ((f = true ∧ ∃ v, hexv c = some v ∧ v < d ∧ n = next m v) ∨ (f = false ∧ n = m ∧ ∀ v, hexv c = some v → d ≤ v))
theorem hexd_hexv (d : Nat) (h : d < 16) : hexv (hexd d).toNat = some d := by
  have : ∀ d : Fin 16, hexv (hexd d.val).toNat = some d.val := by decide
  exact this ⟨d, h⟩
theorem hexv_hexd (c : UInt8) (d : Nat) (h : hexv c.toNat = some d) : c = hexd d := by
  unfold hexv at h
  have hc := c.toNat_lt
  apply UInt8.toNat_inj.1
  split at h
  · injection h with h; subst h; unfold hexd; rw [if_pos (by omega)]; simp; omega
  · split at h
    · injection h with h; subst h; unfold hexd; rw [if_neg (by omega)]; simp; omega
    · cases h

theorem Inn.start {c m : Nat} (hc : c < 256) : Inn c m 0 m false := ⟨by omega, hc, .inr ⟨rfl, rfl, fun _ _ => by omega⟩⟩
theorem Inn.hit {c m d n : Nat} {f : Bool} (h : Inn c m d n f) (hd : d < 16) (hv : hexv c = some d) : n = m ∧ Inn c m (d + 1) (next m d) true := by
  obtain ⟨h0, hc, h⟩ := h
  rcases h with ⟨_, v, e, hlt, _⟩ | ⟨_, e, _⟩
  · rw [hv] at e; injection e; omega
  · exact ⟨e, by omega, hc, .inl ⟨rfl, d, hv, by omega, rfl⟩⟩
theorem Inn.miss {c m d n : Nat} {f : Bool} (h : Inn c m d n f) (hd : d < 16) (hv : hexv c ≠ some d) : Inn c m (d + 1) n f := by
  obtain ⟨h0, hc, h⟩ := h
  refine ⟨by omega, hc, ?_⟩
  rcases h with ⟨hf, v, e, hlt, hn⟩ | ⟨hf, e, hall⟩
  · exact .inl ⟨hf, v, e, by omega, hn⟩
  · refine .inr ⟨hf, e, fun v hv' => ?_⟩
    have := hall v hv'
    rcases Nat.lt_or_ge d v with h | h
    · omega
    · have : v = d := by omega
      subst this; exact absurd hv' hv
theorem Inn.yes {c m d n : Nat} (h : Inn c m d n true) : ∃ v, hexv c = some v ∧ n = next m v := by
  obtain ⟨_, _, ⟨_, v, e, _, hn⟩ | ⟨hf, _⟩⟩ := h
  · exact ⟨v, e, hn⟩
  · cases hf
theorem Inn.no {c m d n : Nat} (h : Inn c m d n false) (hd : ¬ d < 16) : hexv c = none := by
  obtain ⟨_, _, ⟨hf, _⟩ | ⟨_, _, hall⟩⟩ := h
  · cases hf
  · cases hv : hexv c with
    | none => rfl
    | some v => have := hall v hv; have := hexv_lt hv; omega
theorem Inn.lt {c m d n : Nat} {f : Bool} (h : Inn c m d n f) (hm : m < 18446744073709551616) : n < 18446744073709551616 := by
  obtain ⟨_, _, ⟨_, v, e, _, hn⟩ | ⟨_, e, _⟩⟩ := h
  · rw [hn]; exact next_lt _ _ (hexv_lt e)
  · omega
theorem extract_one (s : ByteArray) (k : Nat) (h : k < s.size) : s.extract k (k + 1) = ⟨#[s[k]]⟩ := by
  apply ByteArray.ext
  rw [ByteArray.data_extract]
  apply Array.ext
  · simp; have : s.data.size = s.size := rfl; omega
  · intro i h1 h2
    have : i = 0 := by simpa using h2
    subst this
    simp; rfl
theorem eq_dig (c : UInt8) (d : Nat) (hd : d < 16) : (c == hexd d) = decide (hexv c.toNat = some d) := by
  rw [Bool.eq_iff_iff]; simp only [beq_iff_eq, decide_eq_true_eq]
  exact ⟨fun h => by rw [h]; exact hexd_hexv d hd, fun h => hexv_hexd c d h⟩

theorem parse_txt (n : Nat) : ∀ k, k ≤ 16 → ∀ m, m = n / 2 ^ (4 * k) → parseGo m (txt n k) = some (n % 18446744073709551616) ∨ ¬ n < 18446744073709551616 := by
  intro k
  induction k with
  | zero => intro _ m hm; simp at hm; subst hm; rcases Nat.lt_or_ge m 18446744073709551616 with h | h
            · left; simp [txt, parseGo, Nat.mod_eq_of_lt h]
            · right; omega
  | succ k ih =>
    intro hk m hm
    rcases Nat.lt_or_ge n 18446744073709551616 with h | h
    · rw [txt_succ]
      simp only [parseGo, dig, hexd_hexv _ (Nat.mod_lt _ (by omega : 0 < 16))]
      apply ih (by omega)
      have e : n / 2 ^ (4 * (k + 1)) = n / 2 ^ (4 * k) / 16 := by rw [Nat.div_div_eq_div_mul, Nat.mul_add, Nat.pow_add]
      have hb : n / 2 ^ (4 * k) < 18446744073709551616 := Nat.lt_of_le_of_lt (Nat.div_le_self _ _) h
      rw [hm, e]; unfold next
      generalize n / 2 ^ (4 * k) = x at *
      omega
    · right; omega
theorem parse_fmt (n : Nat) (h : n < 18446744073709551616) : parse ⟨(fmt n).toArray⟩ = some n := by
  unfold parse
  rw [if_pos (by show (fmt n).toArray.size = 16; simp [fmt])]
  have := parse_txt n 16 (by omega) 0 (by rw [show (2 : Nat) ^ (4 * 16) = 18446744073709551616 from rfl]; omega)
  rw [Nat.mod_eq_of_lt h, txt_fmt] at this
  rcases this with h1 | h1
  · simpa using h1
  · exact absurd h h1

/-! the exclusive or, bit by bit -/
def Stp (s b k p y : Nat) : Prop := k ≤ 8 ∧ p = 2 ^ k ∧ y = (s % 256 ^^^ b) % 2 ^ k
theorem Stp.bd {s b k p y : Nat} (h : Stp s b k p y) : 0 < p ∧ p ≤ 256 ∧ y < p := by
  obtain ⟨hk, rfl, rfl⟩ := h
  have h0 : 0 < 2 ^ k := Nat.two_pow_pos k
  have h1 : 2 ^ k ≤ 2 ^ 8 := Nat.pow_le_pow_right (by omega) hk
  exact ⟨h0, h1, Nat.mod_lt _ h0⟩
theorem mod_two_pow_succ' (x k : Nat) : x % 2 ^ (k + 1) = x % 2 ^ k + 2 ^ k * (x / 2 ^ k % 2) := by
  rw [Nat.pow_succ, Nat.mod_mul]
theorem xor_bit (a b k : Nat) : (a ^^^ b) / 2 ^ k % 2 = if a / 2 ^ k % 2 = b / 2 ^ k % 2 then 0 else 1 := by
  have h1 := Nat.testBit_xor (x := a) (y := b) (i := k)
  simp only [Nat.testBit_eq_decide_div_mod_eq] at h1
  have h2 : (a ^^^ b) / 2 ^ k % 2 < 2 := Nat.mod_lt _ (by omega)
  have h3 : a / 2 ^ k % 2 < 2 := Nat.mod_lt _ (by omega)
  have h4 : b / 2 ^ k % 2 < 2 := Nat.mod_lt _ (by omega)
  generalize (a ^^^ b) / 2 ^ k % 2 = u at *
  generalize a / 2 ^ k % 2 = v at *
  generalize b / 2 ^ k % 2 = z at *
  have hu : u = 0 ∨ u = 1 := by omega
  have hv : v = 0 ∨ v = 1 := by omega
  have hz : z = 0 ∨ z = 1 := by omega
  rcases hu with rfl | rfl <;> rcases hv with rfl | rfl <;> rcases hz with rfl | rfl <;> simp_all
theorem Stp.diff {s b k p y : Nat} (h : Stp s b k p y) (hk : k < 8) (hd : ¬ (s % 256 / p % 2 = b / p % 2)) : Stp s b (k + 1) (p * 2) (y + p) := by
  obtain ⟨_, rfl, rfl⟩ := h
  refine ⟨by omega, by rw [Nat.pow_succ], ?_⟩
  rw [mod_two_pow_succ', xor_bit, if_neg hd, Nat.mul_one]
theorem Stp.same {s b k p y : Nat} (h : Stp s b k p y) (hk : k < 8) (hd : s % 256 / p % 2 = b / p % 2) : Stp s b (k + 1) (p * 2) y := by
  obtain ⟨_, rfl, rfl⟩ := h
  refine ⟨by omega, by rw [Nat.pow_succ], ?_⟩
  rw [mod_two_pow_succ', xor_bit, if_pos hd, Nat.mul_zero, Nat.add_zero]
theorem Stp.lt {s b k p y : Nat} (h : Stp s b k p y) (hp : p < 256) : k < 8 := by
  obtain ⟨hk, rfl, rfl⟩ := h
  rcases Nat.lt_or_ge k 8 with h | h
  · exact h
  · have : k = 8 := by omega
    subst this; omega
theorem Stp.fin {s b k p y : Nat} (h : Stp s b k p y) (hp : ¬ p < 256) (hb : b < 256) : y = s % 256 ^^^ b := by
  obtain ⟨hk, rfl, rfl⟩ := h
  have h8 : k = 8 := by
    rcases Nat.lt_or_ge k 8 with h | h
    · exact absurd (Nat.pow_lt_pow_right (a := 2) (by omega) h) hp
    · omega
  subst h8
  exact Nat.mod_eq_of_lt (Nat.xor_lt_two_pow (n := 8) (Nat.mod_lt _ (by omega)) hb)

theorem tst (s b p : Nat) (hb : b < 256) : (((s : Int) % 256 / (p : Int)).tmod 2 != (IntKind.u64.wrap ((b : Int) / (p : Int))).tmod 2) = !decide (s % 256 / p % 2 = b / p % 2) := by
  have e1 : (b : Int) / (p : Int) = ((b / p : Nat) : Int) := (Int.natCast_ediv b p).symm
  have e2 : (s : Int) % 256 / (p : Int) = ((s % 256 / p : Nat) : Int) := by
    rw [show (s : Int) % 256 = ((s % 256 : Nat) : Int) from (Int.natCast_emod s 256).symm]
    exact (Int.natCast_ediv (s % 256) p).symm
  have h1 : (IntKind.u64.wrap ((b : Int) / (p : Int))) = ((b / p : Nat) : Int) := by
    have : b / p ≤ b := Nat.div_le_self _ _
    rw [e1, IntKind.wrap_u64]
    generalize b / p = q at *
    omega
  rw [h1, e2]
  generalize b / p = q
  generalize s % 256 / p = r
  rw [Int.tmod_eq_emod_of_nonneg (by omega), Int.tmod_eq_emod_of_nonneg (by omega)]
  rw [Bool.eq_iff_iff]
  simp only [bne_iff_ne, ne_eq, Bool.not_eq_true', decide_eq_false_iff_not]
  omega
theorem wrap_u64_nat (n : Nat) (h : n < 18446744073709551616) : IntKind.u64.wrap (n : Int) = (n : Int) := by
  rw [IntKind.wrap_u64]; omega
theorem stepI_ref (s b : Nat) (hs : s < 18446744073709551616) (hb : b < 256) :
    bits BinOp.xor IntKind.u64 (IntKind.u64.wrap (IntKind.u64.wrap (IntKind.u64.wrap ((s : Int) - (s : Int) % 256) + ((s % 256 ^^^ b : Nat) : Int)) * 1099511628211))
      (IntKind.u64.wrap ((IntKind.u64.wrap (IntKind.u64.wrap (IntKind.u64.wrap ((s : Int) - (s : Int) % 256) + ((s % 256 ^^^ b : Nat) : Int)) * 1099511628211)).tdiv 4294967296)) = stepI s b := by
  have hx : bits BinOp.xor IntKind.u64 (s : Int) (IntKind.u64.wrap (b : Int)) = ((s ^^^ b : Nat) : Int) := by
    rw [wrap_u64_nat b (by omega)]
    exact u64_xor_nat s b hs (by omega)
  have h0 : IntKind.u64.wrap ((s : Int) - (s : Int) % 256) = ((s - s % 256 : Nat) : Int) := by
    rw [IntKind.wrap_u64]; omega
  have hlt : s ^^^ b < 18446744073709551616 := Nat.xor_lt_two_pow (n := 64) hs (by omega)
  have he : IntKind.u64.wrap (IntKind.u64.wrap ((s : Int) - (s : Int) % 256) + ((s % 256 ^^^ b : Nat) : Int)) = ((s ^^^ b : Nat) : Int) := by
    have h1 : (s ^^^ b) / 256 = s / 256 := by
      have := Nat.xor_div_two_pow (a := s) (b := b) (n := 8)
      rw [show (2 : Nat) ^ 8 = 256 from rfl] at this
      rw [this, Nat.div_eq_of_lt hb, Nat.xor_zero]
    have h2 : (s ^^^ b) % 256 = s % 256 ^^^ b := by
      have := Nat.xor_mod_two_pow (a := s) (b := b) (n := 8)
      rw [show (2 : Nat) ^ 8 = 256 from rfl] at this
      rw [this, Nat.mod_eq_of_lt hb]
    rw [h0, ← h2, show ((s - s % 256 : Nat) : Int) + (((s ^^^ b) % 256 : Nat) : Int) = ((s ^^^ b : Nat) : Int) by
      have := Nat.div_add_mod (s ^^^ b) 256
      have := Nat.div_add_mod s 256
      omega, wrap_u64_nat _ hlt]
  rw [he]
  unfold stepI
  rw [hx]
  generalize hq : IntKind.u64.wrap (((s ^^^ b : Nat) : Int) * 1099511628211) = q
  have hq0 : 0 ≤ q := by rw [← hq, IntKind.wrap_u64]; omega
  have hq1 : q < 18446744073709551616 := by rw [← hq, IntKind.wrap_u64]; omega
  rw [Int.tdiv_eq_ediv_of_nonneg hq0]
  congr 1
  rw [IntKind.wrap_u64]; omega

end Go.Proofs.Ytgpdodhegacndaa.Ck
