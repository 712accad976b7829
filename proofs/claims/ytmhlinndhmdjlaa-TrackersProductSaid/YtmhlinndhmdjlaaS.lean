/- Trackers in plain Lean: what the functions compute, with int64's wraps. -/
import Derived.IntWalk
set_option linter.all false
namespace Go.Proofs.Ytmhlinndhmdjlaa
open Go

structure Part where
  num : Int
  den : Int
  play : Int
  weight : Int
instance : Inhabited Part := ⟨⟨0, 0, 0, 0⟩⟩

structure Q where
  num : Int
  den : Int

def w6 (x : Int) : Int := IntKind.i64.wrap x

def inF (n l m : Int) : Bool := decide (l ≤ n) && decide (n ≤ m)
def partOk (p : Part) : Bool := inF p.num 1 12 && inF p.den 1 12 && inF p.play 0 5000 && inF p.weight 0 10000
def headOk (p t : Int) : Bool := inF p 0 100000 && inF t 1 5000
def checkF (l : List Part) (p t : Int) : Int := if l.length > 8 then 3 else if headOk p t && l.all partOk then 0 else 2

def lessF (q : Q) (n : Int) : Q := ⟨max 0 (w6 (q.num - w6 (n * q.den))), q.den⟩
def timesF (q : Q) (p : Part) : Q := ⟨w6 (q.num * p.num), w6 (q.den * p.den)⟩
def moreF (q : Q) (n : Int) : Q := ⟨w6 (q.num + w6 (n * q.den)), q.den⟩
def ivLo (q : Q) : Int := w6 (q.num.tdiv q.den)
def ivHi (q : Q) : Int := w6 ((w6 (w6 (q.num + q.den) - 1)).tdiv q.den)
def rivHi (q : Q) : Int := if q.num.tmod q.den = 0 then w6 (q.num.tdiv q.den) else w6 (w6 (q.num.tdiv q.den) + 1)

def askedF (l : List Part) (p t turns n : Int) : Int :=
  if checkF l p t ≠ 0 then checkF l p t else if turns < 0 ∨ 100 < turns ∨ inF n 0 50000 = false then 2 else 0

theorem asked_e {l : List Part} {p t turns n : Int} (h : checkF l p t ≠ 0) : askedF l p t turns n = checkF l p t := by rw [askedF, if_pos h]
theorem asked_t {l : List Part} {p t turns n : Int} (h : checkF l p t = 0) (hb : (decide (turns < 0) || decide (100 < turns) || !inF n 0 50000) = true) : askedF l p t turns n = 2 := by
  rw [askedF, if_neg (by rw [h]; simp), if_pos]
  simp only [Bool.or_eq_true, decide_eq_true_eq, Bool.not_eq_true'] at hb
  rcases hb with (h | h) | h
  · exact .inl h
  · exact .inr (.inl h)
  · exact .inr (.inr h)
theorem asked_f {l : List Part} {p t turns n : Int} (h : checkF l p t = 0) (hb : (decide (turns < 0) || decide (100 < turns) || !inF n 0 50000) = false) : askedF l p t turns n = 0 := by
  rw [askedF, if_neg (by rw [h]; simp), if_neg]
  simp only [Bool.or_eq_false_iff, decide_eq_false_iff_not, Bool.not_eq_false'] at hb
  rintro (h | h | h)
  · exact hb.1.1 h
  · exact hb.1.2 h
  · rw [hb.2] at h; cases h

/-- A part, its play turned. -/
def adj (t turns : Int) (p : Part) : Part := { p with play := max 0 (w6 (p.play - w6 (turns * t))) }
def adjL (t turns : Int) : List Part → List Part
  | [] => []
  | p :: l => adj t turns p :: l

def travelF (l : List Part) (q : Q) : Q := l.foldl (fun q p => timesF (lessF q p.play) p) q
def backF (l : List Part) (q : Q) : Q := l.foldl (fun q p => moreF ⟨w6 (q.num * p.den), w6 (q.den * p.num)⟩ p.play) q
def touchF (l : List Part) (q : Q) : Q := l.foldl (fun q p => moreF (timesF q p) p.weight) q

theorem getD_mem {α : Type} [Inhabited α] {l : List α} {i : Nat} (h : i < l.length) : l.getD i default ∈ l := by
  rw [List.getD_eq_getElem?_getD, List.getElem?_eq_getElem h]; exact List.getElem_mem h

theorem take_all_succ {α : Type} [Inhabited α] {l : List α} {f : α → Bool} {i : Nat} (h : i < l.length) : (l.take (i + 1)).all f = ((l.take i).all f && f (l.getD i default)) := by
  rw [List.take_add_one, List.all_append, List.getD_eq_getElem?_getD, List.getElem?_eq_getElem h]
  simp

theorem take_full {α : Type} {l : List α} {i : Nat} (h : l.length ≤ i) : l.take i = l := List.take_of_length_le h

theorem foldl_take_succ {α β : Type} [Inhabited α] {l : List α} {f : β → α → β} {b : β} {i : Nat} (h : i < l.length) : (l.take (i + 1)).foldl f b = f ((l.take i).foldl f b) (l.getD i default) := by
  rw [List.take_add_one, List.foldl_append, List.getD_eq_getElem?_getD, List.getElem?_eq_getElem h]
  rfl

theorem adjL_len (t turns : Int) : ∀ l : List Part, (adjL t turns l).length = l.length
  | [] => rfl
  | _ :: _ => rfl
theorem adjL_zero (t turns : Int) {l : List Part} (h : 0 < l.length) : (adjL t turns l).getD 0 default = adj t turns (l.getD 0 default) := by
  cases l with
  | nil => simp at h
  | cons p l => rfl
theorem adjL_succ (t turns : Int) {l : List Part} {i : Nat} (h : i ≠ 0) : (adjL t turns l).getD i default = l.getD i default := by
  cases l with
  | nil => rfl
  | cons p l =>
    cases i with
    | zero => exact absurd rfl h
    | succ i => rfl

theorem adjL_same (t turns : Int) (l : List Part) (i : Nat) : ((adjL t turns l).getD i default).num = (l.getD i default).num ∧ ((adjL t turns l).getD i default).den = (l.getD i default).den ∧ ((adjL t turns l).getD i default).weight = (l.getD i default).weight := by
  cases l with
  | nil => exact ⟨rfl, rfl, rfl⟩
  | cons p l => cases i <;> exact ⟨rfl, rfl, rfl⟩

theorem travel_succ {l : List Part} {q : Q} {i : Nat} (h : i < l.length) : travelF (l.take (i + 1)) q = timesF (lessF (travelF (l.take i) q) (l.getD i default).play) (l.getD i default) := foldl_take_succ h

/-! ### Backwards -/

theorem rev_get {α : Type} [Inhabited α] {l : List α} {i : Nat} (h : i < l.length) : l.reverse.getD i default = l.getD (l.length - 1 - i) default := by
  rw [List.getD_eq_getElem?_getD, List.getD_eq_getElem?_getD, List.getElem?_reverse h]

theorem touch_succ {l : List Part} {q : Q} {i : Nat} (h : i < l.length) : touchF (l.take (i + 1)) q = moreF (timesF (touchF (l.take i) q) (l.getD i default)) (l.getD i default).weight := foldl_take_succ h
theorem back_succ {l : List Part} {q : Q} {i : Nat} (h : i < l.length) : backF (l.take (i + 1)) q = moreF ⟨w6 ((backF (l.take i) q).num * (l.getD i default).den), w6 ((backF (l.take i) q).den * (l.getD i default).num)⟩ (l.getD i default).play := foldl_take_succ h

theorem back_ix {n i : Nat} (h : i < n) (hn : n ≤ 100) : IntKind.i64.wrap (IntKind.i64.wrap ((n : Int) - 1) - (i : Int)) = ((n - 1 - i : Nat) : Int) := by
  rw [IntWalk.i64_in ((n : Int) - 1) (by omega), IntWalk.i64_in _ (by omega)]; omega

end Go.Proofs.Ytmhlinndhmdjlaa
