/- Bellows in plain Lean: what the functions compute, with int64's wraps. -/
import Derived.Test.YtliipeebknljdaaCo
set_option linter.all false
namespace Go.Proofs.Ytliipeebknljdaa
open Go Go.Vx

structure Bel where
  st : Int
  lo : Int
  hi : Int
  il : Int
  ih : Int
instance : Inhabited Bel := ⟨⟨0, 0, 0, 0, 0⟩⟩

abbrev Iv := Int × Int

def numOk (x : Int) : Bool := decide (-4611686018427387904 ≤ x) && decide (x ≤ 4611686018427387904)
def ivE (l : List Iv) : Int := if l.all (fun a => numOk a.1 && numOk a.2) then (if l.all (fun a => decide (a.1 ≤ a.2)) then 0 else 2) else 7
def belOk (b : Bel) : Bool := decide (0 ≤ b.lo) && decide (b.lo < b.hi) && decide (b.hi ≤ 4000000000) && decide (0 ≤ b.st) && decide (b.st ≤ b.hi) && (decide (ivE [(b.il, b.ih)] = 0) && decide (0 ≤ b.il) && decide (b.ih ≤ 1000000000) && decide (b.ih ≤ b.hi - b.lo))
def belE (b : Bel) : Int := if belOk b then 0 else 2
def wrongF (d : Iv) : Bool := !decide (ivE [d] = 0) || decide (d.1 < 0) || decide (4000000000 < d.2)
def askF (b : Bel) (l : List Iv) : Int := if belE b ≠ 0 then belE b else if l.length > 1000 then 3 else if l.any wrongF then 2 else 0

/-- What flows in, and what there is in a tick. -/
def inflow (b : Bel) (n v : Int) : Int := if v ≤ b.lo then n else if b.hi ≤ v then 0 else w6 ((w6 (n * w6 (b.hi - v))).tdiv (w6 (b.hi - b.lo)))
def hasF (b : Bel) (n v : Int) : Int := if v ≤ b.lo then w6 (v + n) else if b.hi ≤ v then v else w6 (v + w6 ((w6 (n * w6 (b.hi - v))).tdiv (w6 (b.hi - b.lo))))

/-- The side of a demand that a course takes: the worst takes the greater end. -/
def side (w : Bool) (d : Iv) : Int := if w then d.2 else d.1
def inOf (b : Bel) (w : Bool) : Int := if w then b.il else b.ih

/-- The volume before a tick. -/
def volAt (b : Bel) (n : Int) (w : Bool) (l : List Iv) (v : Int) : Int := l.foldl (fun v d => max (w6 (hasF b n v - side w d)) 0) v
def failAt (b : Bel) (n : Int) (w : Bool) (l : List Iv) (v : Int) (i : Nat) : Bool := decide (hasF b n (volAt b n w (l.take i) v) < side w (l.getD i default))
/-- The first tick in which a course fails, or the number of ticks. -/
def failN (b : Bel) (n : Int) (w : Bool) (l : List Iv) (v : Int) : Nat := leastF (failAt b n w l v) l.length 0
def failF (b : Bel) (n : Int) (w : Bool) (l : List Iv) (v : Int) : Int := if failN b n w l v < l.length then (failN b n w l v : Int) else -1
def volsF (b : Bel) (n : Int) (w : Bool) (l : List Iv) : List Int := (List.range l.length).map fun i => volAt b n w (l.take (i + 1)) b.st

theorem vol_succ {b : Bel} {n : Int} {w : Bool} {l : List Iv} {v : Int} {i : Nat} (h : i < l.length) : volAt b n w (l.take (i + 1)) v = max (w6 (hasF b n (volAt b n w (l.take i) v) - side w (l.getD i default))) 0 := foldl_take_succ h
theorem vols_len {b : Bel} {n : Int} {w : Bool} {l : List Iv} : (volsF b n w l).length = l.length := by simp [volsF]
theorem vols_get {b : Bel} {n : Int} {w : Bool} {l : List Iv} {i : Nat} (h : i < l.length) : (volsF b n w l).getD i default = volAt b n w (l.take (i + 1)) b.st := by
  simp [volsF, List.getD_eq_getElem?_getD, h]

/-- What Run returns. -/
def runL (b : Bel) (l : List Iv) : List Iv := (List.range l.length).map fun i => (volAt b b.il true (l.take (i + 1)) b.st, volAt b b.ih false (l.take (i + 1)) b.st)
def runF (b : Bel) (l : List Iv) : List Iv × Int := if askF b l ≠ 0 then ([], askF b l) else (runL b l, 0)
/-- What Given returns. -/
def givL (b : Bel) (l : List Iv) : List Iv := (List.range l.length).map fun i =>
  (min (hasF b b.il (volAt b b.il true (l.take i) b.st)) (l.getD i default).1, min (hasF b b.ih (volAt b b.ih false (l.take i) b.st)) (l.getD i default).2)
def givF (b : Bel) (l : List Iv) : List Iv × Int := if askF b l ≠ 0 then ([], askF b l) else (givL b l, 0)
def failsF (b : Bel) (l : List Iv) : Int × Int × Int := if askF b l ≠ 0 then (0, 0, askF b l) else (failF b b.il true l b.st, failF b b.ih false l b.st, 0)

/-- A course with a constant demand. -/
def lastV (b : Bel) (n d : Int) : Nat → Int
  | 0 => b.st
  | k + 1 => w6 (hasF b n (lastV b n d k) - d)
def lastN (b : Bel) (n d : Int) : Nat := leastF (fun k => decide (hasF b n (lastV b n d k) < d)) 1000001 0
def lastF (b : Bel) (n d : Int) : Int × Bool := if d ≤ n then (-1, true) else if lastN b n d < 1000001 then ((lastN b n d : Int), true) else (0, false)
def lastsF (b : Bel) (d : Int) : Int × Int × Int :=
  if belE b ≠ 0 then (0, 0, belE b) else if d < 0 ∨ 4000000000 < d then (0, 0, 2) else if (lastF b b.il d).2 = true ∧ (lastF b b.ih d).2 = true then ((lastF b b.il d).1, (lastF b b.ih d).1, 0) else (0, 0, 3)

/-- The least start with which no course fails. -/
def needN (b : Bel) (l : List Iv) : Nat := leastF (fun v => decide (failF { b with st := (v : Int) } b.il true l (v : Int) < 0)) (b.hi.toNat + 1) 0
def needF (b : Bel) (l : List Iv) : Int × Int := if askF b l ≠ 0 then (0, askF b l) else if b.hi < (needN b l : Int) then (0, 4) else ((needN b l : Int), 0)

end Go.Proofs.Ytliipeebknljdaa
