/- Trackers in plain Lean: what is asked for, and that both ways are one. -/
import Derived.Test.YtmhlinndhmdjlaaS2
set_option linter.all false
namespace Go.Proofs.Ytmhlinndhmdjlaa
open Go

structure Chain where
  z : Bool
  parts : List Part
  pluck : Int
  turn : Int
instance : Inhabited Chain := ⟨⟨true, [], 0, 0⟩⟩

def tq (l : List Part) (t turns key : Int) : Q := travelF (adjL t turns l) ⟨key, 1⟩
def bq (l : List Part) (t turns opn : Int) : Q := backF (adjL t turns l).reverse ⟨opn, 1⟩
def uq (l : List Part) (p : Int) : Q := touchF l.reverse ⟨p, 1⟩

theorem asked_ok {l : List Part} {p t turns n : Int} (h : askedF l p t turns n = 0) : checkF l p t = 0 ∧ 0 ≤ turns ∧ turns ≤ 100 ∧ 0 ≤ n ∧ n ≤ 50000 := by
  unfold askedF at h
  split at h
  · rename_i h0; exact absurd h h0
  · rename_i h0
    split at h
    · cases h
    · rename_i h1
      simp only [inF, not_or, Bool.not_eq_false', Bool.and_eq_true, decide_eq_true_eq, Bool.not_eq_false] at h1
      refine ⟨Classical.byContradiction h0, ?_⟩
      omega

theorem valid {l : List Part} {p t : Int} (h : checkF l p t = 0) : l.length ≤ 8 ∧ (1 ≤ t ∧ t ≤ 5000) ∧ (0 ≤ p ∧ p ≤ 100000) ∧ ∀ x ∈ l, PartR x := by
  obtain ⟨h1, h2, h3⟩ := check_ok.1 h
  simp only [headOk, inF, Bool.and_eq_true, decide_eq_true_eq] at h2
  exact ⟨h1, h2.2, h2.1, parts_ok h3⟩

theorem tq_ok {l : List Part} {p t turns key : Int} (h : checkF l p t = 0) (hu : 0 ≤ turns ∧ turns ≤ 100) (hk : 0 ≤ key ∧ key ≤ 100000) : tq l t turns key = travelR (adjL t turns l) ⟨key, 1⟩ ∧ Sm l.length (tq l t turns key) ∧ l.length ≤ 8 := by
  obtain ⟨h1, h2, _, h3⟩ := valid h
  have := travel_eq (l := adjL t turns l) (i := 0) (adjL_ok h3 h2 hu) (by rw [adjL_len]; omega) (sm0 hk.1 hk.2)
  rw [adjL_len, Nat.zero_add] at this
  exact ⟨this.1, by rw [tq, this.1]; exact this.2, h1⟩

theorem bq_ok {l : List Part} {p t turns key : Int} (h : checkF l p t = 0) (hu : 0 ≤ turns ∧ turns ≤ 100) (hk : 0 ≤ key ∧ key ≤ 100000) : bq l t turns key = backR (adjL t turns l).reverse ⟨key, 1⟩ ∧ Sm l.length (bq l t turns key) ∧ l.length ≤ 8 := by
  obtain ⟨h1, h2, _, h3⟩ := valid h
  have := back_eq (l := (adjL t turns l).reverse) (i := 0) (fun x hx => adjL_ok h3 h2 hu x (List.mem_reverse.1 hx)) (by rw [List.length_reverse, adjL_len]; omega) (sm0 hk.1 hk.2)
  rw [List.length_reverse, adjL_len, Nat.zero_add] at this
  exact ⟨this.1, by rw [bq, this.1]; exact this.2, h1⟩

theorem uq_ok {l : List Part} {p t : Int} (h : checkF l p t = 0) : uq l p = touchR l.reverse ⟨p, 1⟩ ∧ Sm l.length (uq l p) ∧ l.length ≤ 8 := by
  obtain ⟨h1, h2, hp, h3⟩ := valid h
  have := touch_eq (l := l.reverse) (i := 0) (fun x hx => h3 x (List.mem_reverse.1 hx)) (by rw [List.length_reverse]; omega) (sm0 hp.1 hp.2)
  rw [List.length_reverse, Nat.zero_add] at this
  exact ⟨this.1, by rw [uq, this.1]; exact this.2, h1⟩

/-! ### A travel is enough -/

theorem step_iff {a b c d n m pl : Int} (hb : 0 < b) (hc : 0 < c) (hd : 0 < d) (hn : 1 ≤ n) (hm : 1 ≤ m) (hp : 0 ≤ pl) :
    c * (b * m) ≤ max 0 (a - pl * b) * n * d ↔ (c * m + pl * (d * n)) * b ≤ a * (d * n) := by
  have hpos : 0 < c * (b * m) := Int.mul_pos hc (Int.mul_pos hb (by omega))
  have e1 : (c * m + pl * (d * n)) * b = c * (b * m) + pl * b * (d * n) := by
    rw [Int.add_mul]; congr 1
    · rw [Int.mul_assoc, Int.mul_comm m b]
    · rw [Int.mul_assoc, Int.mul_comm (d * n) b, ← Int.mul_assoc]
  have e2 : (a - pl * b) * n * d = a * (d * n) - pl * b * (d * n) := by
    rw [Int.mul_assoc, Int.mul_comm n d, Int.sub_mul]
  rcases Int.le_total (a - pl * b) 0 with h | h
  · rw [Int.max_eq_left h, Int.zero_mul, Int.zero_mul]
    have h3 : (a - pl * b) * n * d ≤ 0 := by
      rw [Int.mul_assoc]
      exact Int.mul_nonpos_of_nonpos_of_nonneg h (Int.mul_nonneg (by omega) (by omega))
    rw [e1]
    constructor
    · intro h4; omega
    · intro h4; omega
  · rw [Int.max_eq_right h, e1, e2]
    constructor <;> intro h4 <;> omega

/-- The travel opens so far if the key goes as far as is found backwards. -/
theorem travel_iff : ∀ {l : List Part} {q y : Q}, (∀ p ∈ l, PartR p) → 0 < q.den → 0 < y.num → 0 < y.den →
    0 < (travelR l q).den ∧ 0 < (backR l.reverse y).num ∧ 0 < (backR l.reverse y).den ∧ (y.num * (travelR l q).den ≤ (travelR l q).num * y.den ↔ (backR l.reverse y).num * q.den ≤ q.num * (backR l.reverse y).den)
  | [], q, y, _, hq, hn, hd => ⟨hq, hn, hd, Iff.rfl⟩
  | p :: l, q, y, hp, hq, hn, hd => by
    obtain ⟨a, b, c, d, e, f, g, hh⟩ := hp p List.mem_cons_self
    have hs : 0 < (timesR (lessR q p.play) p).den := Int.mul_pos hq (by omega)
    obtain ⟨i1, i2, i3, i4⟩ := travel_iff (l := l) (q := timesR (lessR q p.play) p) (y := y) (fun x hx => hp x (List.mem_cons_of_mem _ hx)) hs hn hd
    have e1 : backR (p :: l).reverse y = moreR ⟨(backR l.reverse y).num * p.den, (backR l.reverse y).den * p.num⟩ p.play := by
      simp only [backR, List.reverse_cons, List.foldl_append, List.foldl_cons, List.foldl_nil]
    have e2 : travelR (p :: l) q = travelR l (timesR (lessR q p.play) p) := rfl
    rw [e1, e2]
    refine ⟨i1, ?_, Int.mul_pos i3 (by omega), ?_⟩
    · have h1 : 0 < (backR l.reverse y).num * p.den := Int.mul_pos i2 (by omega)
      have h2 : 0 ≤ p.play * ((backR l.reverse y).den * p.num) := Int.mul_nonneg e (Int.mul_nonneg (by omega) (by omega))
      simp only [moreR]; omega
    · rw [i4]
      exact step_iff hq i2 i3 a c e

/-- Travels rise with what the key gives. -/
theorem travel_mono : ∀ {l : List Part} {q q' : Q}, (∀ p ∈ l, PartR p) → q.den = q'.den → q.num ≤ q'.num → (travelR l q).den = (travelR l q').den ∧ (travelR l q).num ≤ (travelR l q').num
  | [], q, q', _, h1, h2 => ⟨h1, h2⟩
  | p :: l, q, q', hp, h1, h2 => by
    obtain ⟨a, b, c, d, e, f, g, hh⟩ := hp p List.mem_cons_self
    refine travel_mono (l := l) (fun x hx => hp x (List.mem_cons_of_mem _ hx)) ?_ ?_
    · simp only [timesR, lessR]; rw [h1]
    · simp only [timesR, lessR]
      refine Int.mul_le_mul_of_nonneg_right ?_ (by omega)
      rw [h1]; omega

/-- Travels rise with the turns. -/
theorem travel_turns {l : List Part} {t u v : Int} {q : Q} (hp : ∀ p ∈ l, PartR p) (ht : 1 ≤ t ∧ t ≤ 5000) (hu : 0 ≤ u) (huv : u ≤ v) (hv : v ≤ 100) (hd : 0 < q.den) :
    (travelR (adjL t u l) q).den = (travelR (adjL t v l) q).den ∧ (travelR (adjL t u l) q).num ≤ (travelR (adjL t v l) q).num := by
  cases l with
  | nil => exact ⟨rfl, Int.le_refl _⟩
  | cons p l =>
    obtain ⟨_, e1⟩ := adj_ok (hp p List.mem_cons_self) ht ⟨hu, by omega⟩
    obtain ⟨_, e2⟩ := adj_ok (hp p List.mem_cons_self) ht ⟨by omega, hv⟩
    obtain ⟨a, b, c, d, e, f, g, hh⟩ := hp p List.mem_cons_self
    refine travel_mono (l := l) (fun x hx => hp x (List.mem_cons_of_mem _ hx)) ?_ ?_
    · rw [e1, e2]; rfl
    · rw [e1, e2]
      simp only [timesR, lessR]
      refine Int.mul_le_mul_of_nonneg_right ?_ (by omega)
      have h1 : u * t ≤ v * t := Int.mul_le_mul_of_nonneg_right huv (by omega)
      have h2 : max 0 (p.play - v * t) ≤ max 0 (p.play - u * t) := by omega
      have h3 : max 0 (p.play - v * t) * q.den ≤ max 0 (p.play - u * t) * q.den := Int.mul_le_mul_of_nonneg_right h2 (Int.le_of_lt hd)
      omega

/-! ### What is returned -/

def travLo (l : List Part) (p t turns key : Int) : Int := if askedF l p t turns key = 0 then ivLo (tq l t turns key) else 0
def travHi (l : List Part) (p t turns key : Int) : Int := if askedF l p t turns key = 0 then ivHi (tq l t turns key) else 0
def touLo (l : List Part) (p t : Int) : Int := if checkF l p t = 0 then ivLo (uq l p) else 0
def touHi (l : List Part) (p t : Int) : Int := if checkF l p t = 0 then ivHi (uq l p) else 0

theorem tq_iv {l : List Part} {p t turns key : Int} (h : askedF l p t turns key = 0) : (tq l t turns key).den ≠ 0 ∧ l.length ≤ 100 ∧ ivHi (tq l t turns key) = rivHi (tq l t turns key) := by
  obtain ⟨h1, h2, h3, h4, h5⟩ := asked_ok h
  obtain ⟨_, s, h8⟩ := tq_ok h1 ⟨h2, h3⟩ ⟨h4, by omega⟩
  have := s.d0
  exact ⟨by omega, by omega, (iv_eq s h8).1⟩
theorem uq_iv {l : List Part} {p t : Int} (h : checkF l p t = 0) : (uq l p).den ≠ 0 ∧ l.length ≤ 100 ∧ ivHi (uq l p) = rivHi (uq l p) := by
  obtain ⟨_, s, h8⟩ := uq_ok h
  have := s.d0
  exact ⟨by omega, by omega, (iv_eq s h8).1⟩
theorem bq_iv {l : List Part} {p t turns key : Int} (h : askedF l p t turns key = 0) : (bq l t turns key).den ≠ 0 ∧ l.length ≤ 100 := by
  obtain ⟨h1, h2, h3, h4, h5⟩ := asked_ok h
  obtain ⟨_, s, h8⟩ := bq_ok h1 ⟨h2, h3⟩ ⟨h4, by omega⟩
  have := s.d0
  exact ⟨by omega, by omega⟩

/-- How far the key must go, if 'n' opens far enough and 'n - 1' does not. -/
def needF (l : List Part) (p t turns opn : Int) : Int × Int :=
  if askedF l p t turns opn ≠ 0 then (0, askedF l p t turns opn) else if opn = 0 then (0, 0) else if 50000 < ivHi (bq l t turns opn) then (0, 7) else (ivHi (bq l t turns opn), 0)

def enoughF (l : List Part) (t turns key opn : Int) : Bool := decide (w6 (opn * (tq l t turns key).den) ≤ (tq l t turns key).num)

theorem enough_raw {l : List Part} {p t turns key opn : Int} (h : checkF l p t = 0) (hu : 0 ≤ turns ∧ turns ≤ 100) (hk : 0 ≤ key ∧ key ≤ 100000) (ho : 0 ≤ opn ∧ opn ≤ 50000) :
    enoughF l t turns key opn = true ↔ opn * (travelR (adjL t turns l) ⟨key, 1⟩).den ≤ (travelR (adjL t turns l) ⟨key, 1⟩).num := by
  obtain ⟨e, s, h8⟩ := tq_ok h hu hk
  have h2 := p12 h8
  have h3 : opn * (tq l t turns key).den ≤ 50000 * 429981696 := mul_le' ho.2 (Int.le_trans s.d1 h2.2) ho.1 (by omega)
  have h4 : 0 ≤ opn * (tq l t turns key).den := Int.mul_nonneg ho.1 (Int.le_of_lt s.d0)
  unfold enoughF
  rw [w6_in (by omega) (by omega), decide_eq_true_eq, e]

theorem enough_zero {l : List Part} {p t turns key : Int} (h : checkF l p t = 0) (hu : 0 ≤ turns ∧ turns ≤ 100) (hk : 0 ≤ key ∧ key ≤ 100000) : enoughF l t turns key 0 = true := by
  rw [enough_raw h hu hk ⟨by omega, by omega⟩, Int.zero_mul]
  obtain ⟨e, s, h8⟩ := tq_ok h hu hk
  rw [← e]; exact s.n0

theorem ceil_le {a b k : Int} (hb : 0 < b) : (a + b - 1) / b ≤ k ↔ a ≤ k * b := by
  rw [← Int.lt_add_one_iff, Int.ediv_lt_iff_lt_mul hb, Int.add_mul]
  omega

theorem enough_iff {l : List Part} {p t turns key opn : Int} (h : checkF l p t = 0) (hu : 0 ≤ turns ∧ turns ≤ 100) (hk : 0 ≤ key ∧ key ≤ 100000) (ho : 0 < opn ∧ opn ≤ 50000) :
    enoughF l t turns key opn = true ↔ ivHi (bq l t turns opn) ≤ key := by
  obtain ⟨h1, h2, _, h3⟩ := valid h
  rw [enough_raw h hu hk ⟨by omega, ho.2⟩]
  obtain ⟨e, s, h8⟩ := bq_ok h hu (key := opn) ⟨by omega, by omega⟩
  obtain ⟨_, _, k3, k4⟩ := travel_iff (l := adjL t turns l) (q := ⟨key, 1⟩) (y := ⟨opn, 1⟩) (adjL_ok h3 h2 hu) Int.zero_lt_one ho.1 Int.zero_lt_one
  simp only [Int.mul_one] at k4
  rw [k4, (iv_eq s h8).2.2, ceil_le s.d0, e]

theorem lo_iff {l : List Part} {p t turns key opn : Int} (h : checkF l p t = 0) (hu : 0 ≤ turns ∧ turns ≤ 100) (hk : 0 ≤ key ∧ key ≤ 100000) (ho : 0 ≤ opn ∧ opn ≤ 50000) :
    opn ≤ ivLo (tq l t turns key) ↔ enoughF l t turns key opn = true := by
  rw [enough_raw h hu hk ho]
  obtain ⟨e, s, h8⟩ := tq_ok h hu hk
  rw [(iv_eq s h8).2.1, Int.le_ediv_iff_mul_le s.d0, e]

theorem enough_mono {l : List Part} {p t u v key opn : Int} (h : checkF l p t = 0) (hu : 0 ≤ u) (huv : u ≤ v) (hv : v ≤ 100) (hk : 0 ≤ key ∧ key ≤ 100000) (ho : 0 ≤ opn ∧ opn ≤ 50000) (he : enoughF l t u key opn = true) : enoughF l t v key opn = true := by
  obtain ⟨h1, h2, _, h3⟩ := valid h
  rw [enough_raw h ⟨by omega, by omega⟩ hk ho] at he ⊢
  obtain ⟨e1, e2⟩ := travel_turns (l := l) (q := ⟨key, 1⟩) h3 h2 hu huv hv Int.zero_lt_one
  rw [← e1]; omega

/-- Needed is the least. -/
theorem need_spec {l : List Part} {p t turns opn : Int} (h : askedF l p t turns opn = 0) : ∃ m : Int, 0 ≤ m ∧ (∀ k, 0 ≤ k → k < m → k ≤ 50000 → enoughF l t turns k opn = false) ∧ (∀ k, 0 ≤ k → m ≤ k → k ≤ 50000 → enoughF l t turns k opn = true) ∧
    needF l p t turns opn = if 50000 < m then (0, 7) else (m, 0) := by
  obtain ⟨h1, h2, h3, h4, h5⟩ := asked_ok h
  unfold needF
  rw [if_neg (by rw [h]; simp)]
  by_cases h0 : opn = 0
  · subst h0
    exact ⟨0, Int.le_refl _, fun k a b => by omega, fun k a _ c => enough_zero h1 ⟨h2, h3⟩ ⟨a, by omega⟩, by simp⟩
  · rw [if_neg h0]
    have key := fun k (ha : 0 ≤ k) (hb : k ≤ 50000) => enough_iff (key := k) h1 ⟨h2, h3⟩ ⟨ha, by omega⟩ ⟨(by omega : 0 < opn), h5⟩
    obtain ⟨e, s, h8⟩ := bq_ok h1 ⟨h2, h3⟩ (key := opn) ⟨by omega, by omega⟩
    have hnn : 0 ≤ ivHi (bq l t turns opn) := by
      rw [(iv_eq s h8).2.2]
      have := s.n0; have := s.d0
      exact Int.ediv_nonneg (by omega) (by omega)
    refine ⟨_, hnn, fun k a b c => ?_, fun k a b c => (key k a c).2 b, rfl⟩
    cases hh : enoughF l t turns k opn with
    | false => rfl
    | true => have := (key k a c).1 hh; omega

end Go.Proofs.Ytmhlinndhmdjlaa
