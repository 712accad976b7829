/- Trackers in plain Lean: chains. -/
import Derived.Test.YtmhlinndhmdjlaaS3
set_option linter.all false
namespace Go.Proofs.Ytmhlinndhmdjlaa
open Go

def chkF (c : Chain) : Int := checkF c.parts c.pluck c.turn

def firstE : List Chain → Int
  | [] => 0
  | c :: l => if chkF c = 0 then firstE l else chkF c

theorem firstE_at : ∀ {l : List Chain} {i : Nat}, i < l.length → (∀ j, j < i → chkF (l.getD j default) = 0) → chkF (l.getD i default) ≠ 0 → firstE l = chkF (l.getD i default)
  | c :: l, 0, _, _, h => by
    have h' : chkF c ≠ 0 := h
    rw [firstE, if_neg h']; rfl
  | c :: l, i + 1, hi, hall, h => by
    rw [firstE, if_pos (by have := hall 0 (by omega); simpa using this)]
    have := firstE_at (l := l) (i := i) (by simpa using hi) (fun j hj => by have := hall (j + 1) (by omega); simpa using this) (by simpa using h)
    simpa using this

theorem firstE_zero : ∀ {l : List Chain}, (∀ j, j < l.length → chkF (l.getD j default) = 0) → firstE l = 0
  | [], _ => rfl
  | c :: l, hall => by
    rw [firstE, if_pos (by have := hall 0 (by simp); simpa using this)]
    exact firstE_zero fun j hj => by have := hall (j + 1) (by simpa using hj); simpa using this

theorem firstE_all {l : List Chain} (h : firstE l = 0) : ∀ c ∈ l, chkF c = 0 := by
  induction l with
  | nil => intro c hc; cases hc
  | cons d l ih =>
    unfold firstE at h
    split at h
    · rename_i h0
      intro c hc
      rcases List.mem_cons.1 hc with rfl | hc
      · exact h0
      · exact ih h c hc
    · rename_i h0; exact absurd h h0

theorem firstE_ne3 {l : List Chain} : firstE l = 0 ∨ firstE l ≠ 0 := by omega

def rwholeF (l : List Chain) : Int := if l.length > 16 then 3 else firstE l
def wholeF (l : List Chain) (ns : List Int) : Int := if rwholeF l ≠ 0 then rwholeF l else if ns.all (fun n => inF n 0 50000) then 0 else 2

theorem wholeF_ok {l : List Chain} {ns : List Int} (h : wholeF l ns = 0) : l.length ≤ 16 ∧ (∀ c ∈ l, chkF c = 0) ∧ ∀ n ∈ ns, 0 ≤ n ∧ n ≤ 50000 := by
  unfold wholeF at h
  split at h
  · rename_i h0; exact absurd h h0
  · rename_i h0
    have h0 : rwholeF l = 0 := Classical.byContradiction h0
    unfold rwholeF at h0
    split at h0
    · cases h0
    · split at h
      · rename_i h16 hall
        refine ⟨by omega, firstE_all h0, fun n hn => ?_⟩
        have := List.all_eq_true.1 hall n hn
        simpa [inF] using this
      · cases h

theorem whole_e {l : List Chain} {ns : List Int} (h : rwholeF l ≠ 0) : wholeF l ns = rwholeF l := by rw [wholeF, if_pos h]
theorem whole2_t {l : List Chain} {a b : Int} (h : (decide (rwholeF l = 0) && (!inF a 0 50000 || !inF b 0 50000)) = true) : wholeF l [a, b] = 2 := by
  rw [Bool.and_eq_true, decide_eq_true_eq] at h
  rw [wholeF, if_neg (by rw [h.1]; simp), if_neg]
  have := h.2
  revert this
  simp only [List.all_cons, List.all_nil]
  cases inF a 0 50000 <;> cases inF b 0 50000 <;> simp
theorem whole2_f {l : List Chain} {a b : Int} (h0 : rwholeF l = 0) (h : (decide (rwholeF l = 0) && (!inF a 0 50000 || !inF b 0 50000)) = false) : wholeF l [a, b] = 0 := by
  rw [h0] at h
  rw [wholeF, if_neg (by rw [h0]; simp), if_pos]
  revert h
  simp only [List.all_cons, List.all_nil]
  cases inF a 0 50000 <;> cases inF b 0 50000 <;> simp
theorem whole1_t {l : List Chain} {a : Int} (h : (decide (rwholeF l = 0) && !inF a 0 50000) = true) : wholeF l [a] = 2 := by
  rw [Bool.and_eq_true, decide_eq_true_eq] at h
  rw [wholeF, if_neg (by rw [h.1]; simp), if_neg]
  have := h.2
  revert this
  simp only [List.all_cons, List.all_nil]
  cases inF a 0 50000 <;> simp
theorem whole1_f {l : List Chain} {a : Int} (h0 : rwholeF l = 0) (h : (decide (rwholeF l = 0) && !inF a 0 50000) = false) : wholeF l [a] = 0 := by
  rw [h0] at h
  rw [wholeF, if_neg (by rw [h0]; simp), if_pos]
  revert h
  simp only [List.all_cons, List.all_nil]
  cases inF a 0 50000 <;> simp

/-- The first number below 'n' for which something holds, else n. -/
def leastF (f : Nat → Bool) : Nat → Nat → Nat
  | 0, k => k
  | n + 1, k => if f k then k else leastF f n (k + 1)

theorem leastF_spec {f : Nat → Bool} : ∀ (n k : Nat), k ≤ leastF f n k ∧ leastF f n k ≤ n + k ∧ (∀ j, k ≤ j → j < leastF f n k → f j = false) ∧ (leastF f n k < n + k → f (leastF f n k) = true)
  | 0, k => ⟨Nat.le_refl _, by simp [leastF], fun j h1 h2 => by simp [leastF] at h2; omega, fun h => by simp [leastF] at h⟩
  | n + 1, k => by
    unfold leastF
    split
    · rename_i h; exact ⟨Nat.le_refl _, by omega, fun j h1 h2 => by omega, fun _ => h⟩
    · rename_i h
      obtain ⟨h1, h2, h3, h4⟩ := leastF_spec (f := f) n (k + 1)
      refine ⟨by omega, by omega, fun j a b => ?_, fun hlt => h4 (by omega)⟩
      rcases Nat.lt_or_ge k j with h' | h'
      · exact h3 j h' b
      · obtain rfl : j = k := by omega
        simpa using h

theorem leastF_eq {f : Nat → Bool} {n m : Nat} (h1 : ∀ j, j < m → f j = false) (h2 : m ≤ n) (h3 : m < n → f m = true) : leastF f n 0 = m := by
  obtain ⟨a, b, c, d⟩ := leastF_spec (f := f) n 0
  rcases Nat.lt_trichotomy (leastF f n 0) m with h | h | h
  · have := h1 _ h
    rw [d (by omega)] at this; cases this
  · exact h
  · have := c m (Nat.zero_le _) h
    rw [h3 (by omega)] at this; cases this

def turnsF (c : Chain) (key opn : Int) : Nat := leastF (fun n => enoughF c.parts c.turn n key opn) 101 0

theorem turnsF_le (c : Chain) (key opn : Int) : turnsF c key opn ≤ 101 := by
  have := (leastF_spec (f := fun n => enoughF c.parts c.turn n key opn) 101 0).2.1
  simpa [turnsF] using this

/-- What Regulate returns. -/
def regF (l : List Chain) (key opn : Int) : List Int × Int :=
  if wholeF l [key, opn] ≠ 0 then ([], wholeF l [key, opn]) else if l.all (fun c => decide (turnsF c key opn ≤ 100)) then (l.map fun c => (turnsF c key opn : Int), 0) else ([], 7)

def ivs (c : Chain) (key : Int) : Int × Int := (ivLo (tq c.parts c.turn 0 key), ivHi (tq c.parts c.turn 0 key))
def tous (c : Chain) : Int × Int := (ivLo (uq c.parts c.pluck), ivHi (uq c.parts c.pluck))
def sumF (l : List Chain) : Int × Int := l.foldl (fun s c => (w6 (s.1 + (tous c).1), w6 (s.2 + (tous c).2))) (0, 0)
/-- What Coupled returns. -/
def coupF (l : List Chain) (key : Int) : List (Int × Int) × (Int × Int) × Int :=
  if wholeF l [key] ≠ 0 then ([], (0, 0), wholeF l [key]) else (l.map fun c => ivs c key, sumF l, 0)

theorem sum_succ {l : List Chain} {i : Nat} (h : i < l.length) : sumF (l.take (i + 1)) = (w6 ((sumF (l.take i)).1 + (tous (l.getD i default)).1), w6 ((sumF (l.take i)).2 + (tous (l.getD i default)).2)) := foldl_take_succ h

theorem chk_iv0 {c : Chain} {key : Int} (h : chkF c = 0) (hk : 0 ≤ key ∧ key ≤ 50000) : (tq c.parts c.turn 0 key).den ≠ 0 ∧ c.parts.length ≤ 100 ∧ ivHi (tq c.parts c.turn 0 key) = rivHi (tq c.parts c.turn 0 key) := by
  obtain ⟨_, s, h8⟩ := tq_ok (turns := 0) (key := key) h ⟨by omega, by omega⟩ ⟨hk.1, by omega⟩
  have := s.d0
  exact ⟨by omega, by omega, (iv_eq s h8).1⟩

theorem chk_ivn {c : Chain} {key turns : Int} (h : chkF c = 0) (hu : 0 ≤ turns ∧ turns ≤ 100) (hk : 0 ≤ key ∧ key ≤ 50000) : (tq c.parts c.turn turns key).den ≠ 0 ∧ c.parts.length ≤ 100 := by
  obtain ⟨_, s, h8⟩ := tq_ok (turns := turns) (key := key) h hu ⟨hk.1, by omega⟩
  have := s.d0
  exact ⟨by omega, by omega⟩

end Go.Proofs.Ytmhlinndhmdjlaa
