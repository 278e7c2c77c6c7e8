/- What the functions of package pace, and the reference's, compute: plain Lean, no program. -/
import Derived.Test.YtglmdoghknpgkaaBase
namespace Go.Proofs.Ytglmdoghknpgkaa
set_option linter.unusedVariables false
set_option linter.unusedSimpArgs false
open Go.RowKit

structure Sent where
  n : Int
  at_ : Int
  tries : Int
  deriving DecidableEq

structure PaceS where
  now : Int
  last : Int
  l : List Sent
  deriving DecidableEq

def Sent.cells (s : Sent) : List Value := [.int .i64 s.n, .int .i64 s.at_, .int .i64 s.tries]
def wait (t : Int) : Int := if t < 1 then 0 else if t = 1 then 4 else if t = 2 then 8 else if t = 3 then 16 else if t = 4 then 32 else 64

def PaceS.may (p : PaceS) (now : Int) : Bool := !decide (now < p.now) && !decide (1073741824 < now)

def dueOne (now : Int) (s : Sent) : Bool := decide (wait s.tries ≤ wrap64 (now - s.at_))
def dueStep (now : Int) (s : Sent) : Sent := if dueOne now s then ⟨s.n, now, wrap64 (s.tries + 1)⟩ else s
def dueOut (now : Int) (l : List Sent) : List Int := (l.filter (dueOne now)).map Sent.n

theorem dueOut_snoc (now : Int) (l : List Sent) (s : Sent) : dueOut now (l ++ [s]) = dueOut now l ++ if dueOne now s then [s.n] else [] := by
  unfold dueOut; rw [List.filter_append, List.map_append]; by_cases h : dueOne now s <;> simp [h]

/-- After k rounds of Due. -/
def dueTo (now : Int) (l : List Sent) (k : Nat) : List Sent := (l.take k).map (dueStep now) ++ l.drop k

theorem dueTo_zero (now : Int) (l : List Sent) : dueTo now l 0 = l := by simp [dueTo]
theorem dueTo_all (now : Int) (l : List Sent) : dueTo now l l.length = l.map (dueStep now) := by simp [dueTo]
theorem dueTo_length (now : Int) (l : List Sent) (k : Nat) (h : k ≤ l.length) : (dueTo now l k).length = l.length := by
  simp [dueTo]; omega
theorem dueTo_at (now : Int) (l : List Sent) (k : Nat) (h : k < l.length) (h' : k < (dueTo now l k).length) : (dueTo now l k)[k] = l[k] := by
  simp only [dueTo]
  rw [List.getElem_append_right (by simp; omega)]
  simp only [List.getElem_drop, List.length_map, List.length_take]
  congr 1; omega
theorem dueTo_succ (now : Int) (l : List Sent) (k : Nat) (h : k < l.length) : dueTo now l (k + 1) = (dueTo now l k).set k (dueStep now l[k]) := by
  unfold dueTo
  rw [List.set_append_right _ _ (by simp; omega), List.take_succ_eq_append_getElem h, List.map_append, List.append_assoc]
  rw [List.length_map, List.length_take, Nat.min_eq_left (by omega), Nat.sub_self, List.drop_eq_getElem_cons h]
  simp only [List.set_cons_zero, List.map_cons, List.map_nil, List.cons_append, List.nil_append]

def PaceS.send (p : PaceS) (now n : Int) : Option PaceS :=
  if p.may now && !decide (n ≤ p.last) && !decide (64 ≤ p.l.length) then some ⟨now, n, p.l ++ [⟨n, now, 1⟩]⟩ else none
def PaceS.due (p : PaceS) (now : Int) : PaceS × List Int :=
  if p.may now then (⟨now, p.last, p.l.map (dueStep now)⟩, dueOut now p.l) else (p, [])
def PaceS.find (p : PaceS) (n : Int) : Option Nat := p.l.findIdx? (fun s => s.n == n)
def PaceS.told (p : PaceS) (n : Int) : PaceS × Bool :=
  match p.find n with
  | some k => (⟨p.now, p.last, p.l.eraseIdx k⟩, true)
  | none => (p, false)

end Go.Proofs.Ytglmdoghknpgkaa
