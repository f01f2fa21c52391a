/- Layer 27: units as plain data, and what the operations do to them. -/
import Derived.Test.YtodhpooddmeghaaGg
namespace Go.Proofs.Ytodhpooddmeghaa
set_option linter.unusedSimpArgs false
set_option linter.unusedVariables false
open Go.RowKit
namespace Us
/-- a unit with its current order -/
structure U where
  id : Int
  kind : Int
  home : Int
  state : Int
  node : Int
  seq : Int
  heard : Int
  inc : Int
  ep : Int
  ack : Int
  ou : Int
  oe : Int
  ok : Int
  oi : Int
  on : Int
  deriving DecidableEq
def U.cells (u : U) : List Value := [.int .i64 u.id, .int .i64 u.kind, .int .i64 u.home, .int .i64 u.state, .int .i64 u.node, .int .i64 u.seq, .int .i64 u.heard, .int .i64 u.inc, .int .i64 u.ep, .int .i64 u.ack, .int .i64 u.ou, .int .i64 u.oe, .int .i64 u.ok, .int .i64 u.oi, .int .i64 u.on]
theorem U.len (u : U) : u.cells.length = 15 := rfl
/-- the unit's own part, and its order -/
def U.head (u : U) : List Value := [.int .i64 u.id, .int .i64 u.kind, .int .i64 u.home, .int .i64 u.state, .int .i64 u.node, .int .i64 u.seq, .int .i64 u.heard, .int .i64 u.inc, .int .i64 u.ep, .int .i64 u.ack]
def U.ord (u : U) : List Value := [.int .i64 u.ou, .int .i64 u.oe, .int .i64 u.ok, .int .i64 u.oi, .int .i64 u.on]
theorem U.hlen (u : U) : u.head.length = 10 := rfl
def s1 (u : U) : List Int := [u.id, u.kind, u.home, u.state, u.node]
def s2 (u : U) : List Int := [u.seq, u.heard, u.inc, u.ep, u.ack]
def s3 (u : U) : List Int := [u.oe, u.ok, u.oi, u.on]
def zero : U := ⟨0, 0, 0, 0, 0, 0, 0, 0, 0, 0, 0, 0, 0, 0, 0⟩
/-- a report: unit, sequence number, state, node, epoch -/
structure S where
  u : Int
  q : Int
  s : Int
  n : Int
  e : Int
def S.cells (s : S) : List Value := [.int .i64 s.u, .int .i64 s.q, .int .i64 s.s, .int .i64 s.n, .int .i64 s.e]
structure Cfg where
  k : Int
  h : Int
  n : Int
def Cfg.cells (c : Cfg) : List Value := [.int .i64 c.k, .int .i64 c.h, .int .i64 c.n]
theorem Cfg.len (c : Cfg) : c.cells.length = 3 := rfl
def nodeB (n : Int) : Bool := decide (0 ≤ n ∧ n < 4096)
def tickB (n : Int) : Bool := decide (0 ≤ n ∧ n ≤ 1099511627776)
def incB (n : Int) : Bool := decide (1 ≤ n ∧ n ≤ 1099511627776)
def epB (u : U) (e : Int) : Bool := decide (u.ep < e ∧ e ≤ 1099511627776)
def there (l : List U) (id : Int) : Bool := decide (0 ≤ id ∧ id < l.length)
def get (l : List U) (id : Int) : U := l.getD id.toNat zero
def put (l : List U) (id : Int) (u : U) : List U := l.set id.toNat u
def issue (u : U) (e k i n : Int) : U := { u with ep := e, ou := u.id, oe := e, ok := k, oi := i, on := n }
def says (s : Int) : Bool := decide (s = 1 ∨ s = 3 ∨ s = 4 ∨ s = 5 ∨ s = 6)
def repB (u : U) (s : S) : Bool := says s.s && (decide (1 ≤ s.q) && (nodeB s.n && decide (0 ≤ s.e ∧ s.e ≤ u.ep)))
/-- Report -/
def repE (l : List U) (s : S) (now e : Int) : Int := if there l s.u && (repB (get l s.u) s && (tickB now && epB (get l s.u) e)) then (if s.q ≤ (get l s.u).seq then 9 else 0) else 1
def rep1 (u : U) (s : S) (now : Int) : U := { u with seq := s.q, heard := now, node := s.n, ack := max u.ack s.e }
def repU (u : U) (s : S) (now e : Int) : U :=
  if s.s = 6 then (if u.inc ≠ 0 then issue { rep1 u s now with state := 6, inc := 0 } e 2 0 0 else { rep1 u s now with state := 6, inc := 0 })
  else if s.e ≠ u.ep then rep1 u s now else if s.s = 1 then { rep1 u s now with state := s.s, inc := 0 } else { rep1 u s now with state := s.s }
def repG (u : U) (s : S) : Bool := decide (u.inc ≠ 0) && decide (s.s = 6 ∨ (s.e = u.ep ∧ s.s = 1))
def repL (l : List U) (s : S) (now e : Int) : List U := if repE l s now e = 0 then put l s.u (repU (get l s.u) s now e) else l
def repGone (l : List U) (s : S) (now e : Int) : Bool := decide (repE l s now e = 0) && repG (get l s.u) s
/-- Assign -/
def bindE (l : List U) (id inc e n : Int) : Int := if there l id && (incB inc && (epB (get l id) e && nodeB n)) then (if (get l id).state ≠ 1 then 8 else 0) else 1
def bindL (l : List U) (id inc e n : Int) : List U := if bindE l id inc e n = 0 then put l id (issue { get l id with state := 2, inc := inc } e 1 inc n) else l
/-- StandDown -/
def standE (l : List U) (id e : Int) : Int := if there l id && epB (get l id) e then 0 else 1
def standU (u : U) (e : Int) : U := issue { u with state := if u.state ≠ 6 ∧ u.state ≠ 7 then 2 else u.state, inc := 0 } e 2 0 0
def standL (l : List U) (id e : Int) : List U := if standE l id e = 0 then put l id (standU (get l id) e) else l
/-- Move -/
def moveE (l : List U) (id n e : Int) : Int := if there l id && (nodeB n && epB (get l id) e) then (if (get l id).state ≠ 1 then 8 else 0) else 1
def moveL (l : List U) (id n e : Int) : List U := if moveE l id n e = 0 then put l id (issue { get l id with state := 2 } e 3 0 n) else l
/-- MarkSilent -/
def late (u : U) (now n : Int) : Bool := decide (u.state ≠ 6 ∧ u.state ≠ 7 ∧ n ≤ IntKind.i64.wrap (now - u.heard))
def quietOk (l : List U) (now n e : Int) : Bool := decide (1 ≤ n) && (tickB now && (l.all fun u => epB u e))
def quietU (u : U) (now n e : Int) : U := if late u now n then issue { u with state := 7, inc := 0 } e 2 0 0 else u
def quietL (l : List U) (now n e : Int) : List U := if quietOk l now n e then l.map fun u => quietU u now n e else l
def idx (p : U → Bool) (l : List U) : List Int := (l.zipIdx.filter fun x => p x.1).map fun x => (x.2 : Int)
def quietW (l : List U) (now n e : Int) : List Int := if quietOk l now n e then idx (fun u => late u now n) l else []
/-- PendingOrder -/
def pend (l : List U) (id : Int) : Bool := there l id && decide ((get l id).ack < (get l id).ep)
/-- MergeIncident -/
def turnL (l : List U) (a b : Int) : List U := if incB a && incB b then l.map fun u => if u.inc = a then { u with inc := b } else u else l
def free (l : List U) : List Int := idx (fun u => decide (u.state = 1)) l
def of (l : List U) (i : Int) : List Int := if i = 0 then [] else idx (fun u => decide (u.inc = i)) l
def sums (l : List U) : List Int := l.flatMap fun u => [u.id, u.kind, u.home, u.state, u.node, u.seq, u.heard, u.inc, u.ep, u.ack, u.oe, u.ok, u.oi, u.on]
/-- New -/
def cfgB (c : Cfg) : Bool := decide (1 ≤ c.k ∧ c.k ≤ 4) && (decide (0 ≤ c.h) && nodeB c.n)
def newE (l : List Cfg) : Int := if 256 < l.length then 3 else if l.all cfgB then 0 else 1
def fresh (c : Cfg) (i : Nat) : U := { zero with id := i, kind := c.k, home := c.h, state := 1, node := c.n }
def newL (l : List Cfg) : List U := l.zipIdx.map fun x => fresh x.1 x.2

theorem idx_snoc (p : U → Bool) (l : List U) (k : Nat) (hk : k < l.length) : idx p (l.take (k + 1)) = idx p (l.take k) ++ (if p l[k] then [(k : Int)] else []) := by
  unfold idx
  rw [List.take_succ_eq_append_getElem hk, List.zipIdx_append, List.filter_append, List.map_append]
  congr 1
  have hl : (l.take k).length = k := by rw [List.length_take]; omega
  rw [hl]
  simp only [List.zipIdx_cons, List.zipIdx_nil, Nat.zero_add]
  cases h : p l[k] <;> simp [h]
theorem idx_len (p : U → Bool) (l : List U) : (idx p l).length ≤ l.length := by
  unfold idx
  rw [List.length_map]
  exact Nat.le_trans (List.length_filter_le _ _) (by simp)
theorem of_len (l : List U) (i : Int) : (of l i).length ≤ l.length := by
  unfold of; split
  · exact Nat.zero_le _
  · exact idx_len _ _
theorem get_at {l : List U} {id : Int} {i : Nat} (h : id = i) (hi : i < l.length) : get l id = l[i] := by
  subst h; unfold get; rw [Int.toNat_natCast, List.getD_eq_getElem?_getD, List.getElem?_eq_getElem hi]; rfl
theorem sums_snoc (l : List U) (k : Nat) (hk : k < l.length) : sums (l.take (k + 1)) = sums (l.take k) ++ [l[k].id, l[k].kind, l[k].home, l[k].state, l[k].node, l[k].seq, l[k].heard, l[k].inc, l[k].ep, l[k].ack, l[k].oe, l[k].ok, l[k].oi, l[k].on] := by
  unfold sums; rw [List.take_succ_eq_append_getElem hk, List.flatMap_append]; rfl
theorem sums_len (l : List U) : (sums l).length = 14 * l.length := by
  induction l with
  | nil => rfl
  | cons u l ih => simp [sums] at ih ⊢; omega
theorem newL_snoc (l : List Cfg) (k : Nat) (hk : k < l.length) : newL (l.take (k + 1)) = newL (l.take k) ++ [fresh l[k] k] := by
  unfold newL
  rw [List.take_succ_eq_append_getElem hk, List.zipIdx_append, List.map_append]
  have hl : (l.take k).length = k := by rw [List.length_take]; omega
  rw [hl]; simp
theorem cells_one (l : List U) : ∀ u ∈ l.flatMap U.cells, u.oneCell' = true := by
  intro u hu
  obtain ⟨x, -, hx⟩ := List.mem_flatMap.1 hu
  simp only [U.cells, List.mem_cons, List.not_mem_nil, or_false] at hx
  rcases hx with rfl | rfl | rfl | rfl | rfl | rfl | rfl | rfl | rfl | rfl | rfl | rfl | rfl | rfl | rfl <;> rfl
theorem newL_at (l : List Cfg) (k : Nat) (hk : k < l.length) : (newL l)[k]'(by simp [newL]; exact hk) = fresh l[k] k := by simp [newL]
theorem newL_len (l : List Cfg) : (newL l).length = l.length := by simp [newL]
end Us
end Go.Proofs.Ytodhpooddmeghaa
