/- Trackers in plain Lean: products of ratios. -/
import Derived.Test.YtmhlinndhmdjlaaS5
set_option linter.all false
namespace Go.Proofs.Ytmhlinndhmdjlaa
open Go

/-- A part without play and weight. -/
def bare (p : Part) : Part := ⟨p.num, p.den, 0, 0⟩
def prodF (l : List Part) : Q := l.foldl timesF ⟨1, 1⟩
def numR : List Part → Int
  | [] => 1
  | p :: l => p.num * numR l
def denR : List Part → Int
  | [] => 1
  | p :: l => p.den * denR l

theorem prod_succ {l : List Part} {i : Nat} (h : i < l.length) : prodF (l.take (i + 1)) = timesF (prodF (l.take i)) (l.getD i default) := foldl_take_succ h

theorem numR_app : ∀ (a b : List Part), numR (a ++ b) = numR a * numR b
  | [], b => by simp [numR]
  | p :: a, b => by simp [numR, numR_app a b, Int.mul_assoc]
theorem denR_app : ∀ (a b : List Part), denR (a ++ b) = denR a * denR b
  | [], b => by simp [denR]
  | p :: a, b => by simp [denR, denR_app a b, Int.mul_assoc]
theorem numR_rev : ∀ (a : List Part), numR a.reverse = numR a
  | [] => rfl
  | p :: a => by rw [List.reverse_cons, numR_app, numR_rev a]; simp [numR, Int.mul_comm]
theorem denR_rev : ∀ (a : List Part), denR a.reverse = denR a
  | [] => rfl
  | p :: a => by rw [List.reverse_cons, denR_app, denR_rev a]; simp [denR, Int.mul_comm]
theorem numR_bare : ∀ (a : List Part), numR (a.map bare) = numR a
  | [] => rfl
  | p :: a => by rw [List.map_cons, numR, numR, numR_bare a]; rfl
theorem denR_bare : ∀ (a : List Part), denR (a.map bare) = denR a
  | [] => rfl
  | p :: a => by rw [List.map_cons, denR, denR, denR_bare a]; rfl

theorem pos_of : ∀ {l : List Part}, (∀ p ∈ l, PartR p) → 0 < numR l ∧ 0 < denR l ∧ numR l ≤ 12 ^ l.length ∧ denR l ≤ 12 ^ l.length
  | [], _ => by simp [numR, denR]
  | p :: l, hp => by
    obtain ⟨a, b, c, d, e, f, g, hh⟩ := hp p List.mem_cons_self
    obtain ⟨h1, h2, h3, h4⟩ := pos_of (l := l) fun x hx => hp x (List.mem_cons_of_mem _ hx)
    refine ⟨Int.mul_pos (by omega) h1, Int.mul_pos (by omega) h2, ?_, ?_⟩
    · rw [List.length_cons, pow_succ12, Int.mul_comm (12 ^ l.length) 12]; exact mul_le' b h3 (by omega) (by have := Int.lt_of_lt_of_le h1 h3; omega)
    · rw [List.length_cons, pow_succ12, Int.mul_comm (12 ^ l.length) 12]; exact mul_le' d h4 (by omega) (by have := Int.lt_of_lt_of_le h2 h4; omega)

theorem travel_bare : ∀ {l : List Part} {q : Q}, (∀ p ∈ l, PartR p) → 0 ≤ q.num → travelR (l.map bare) q = ⟨q.num * numR l, q.den * denR l⟩
  | [], q, _, _ => by simp [travelR, numR, denR]
  | p :: l, q, hp, h => by
    obtain ⟨a, b, c, d, e, f, g, hh⟩ := hp p List.mem_cons_self
    have e1 : timesR (lessR q 0) (bare p) = ⟨q.num * p.num, q.den * p.den⟩ := by
      simp only [timesR, lessR, bare, Int.zero_mul, Int.sub_zero]; rw [Int.max_eq_right h]
    have := travel_bare (l := l) (q := ⟨q.num * p.num, q.den * p.den⟩) (fun x hx => hp x (List.mem_cons_of_mem _ hx)) (Int.mul_nonneg h (by omega))
    rw [List.map_cons, travelR, List.foldl_cons]
    change travelR (l.map bare) (timesR (lessR q 0) (bare p)) = _
    rw [e1, this, numR, denR]
    simp [Int.mul_assoc]

theorem touch_bare : ∀ {l : List Part} {q : Q}, touchR (l.map bare) q = ⟨q.num * numR l, q.den * denR l⟩
  | [], q => by simp [touchR, numR, denR]
  | p :: l, q => by
    have e1 : moreR (timesR q (bare p)) 0 = ⟨q.num * p.num, q.den * p.den⟩ := by simp [timesR, moreR, bare]
    rw [List.map_cons, touchR, List.foldl_cons]
    change touchR (l.map bare) (moreR (timesR q (bare p)) 0) = _
    rw [e1, touch_bare, numR, denR]
    simp [Int.mul_assoc]

theorem bare_ok {p : Part} (h : PartR p) : partOk (bare p) = true := by
  obtain ⟨a, b, c, d, e, f, g, hh⟩ := h
  rw [partOk_iff]; exact ⟨a, b, c, d, by simp [bare], by simp [bare], by simp [bare], by simp [bare]⟩

theorem check_bare {l : List Part} {p t : Int} (h : checkF l p t = 0) : checkF (l.map bare) p t = 0 := by
  obtain ⟨h1, h2, h3⟩ := check_ok.1 h
  refine check_ok.2 ⟨by simpa using h1, h2, List.all_eq_true.2 fun x hx => ?_⟩
  obtain ⟨y, hy, rfl⟩ := List.mem_map.1 hx
  exact bare_ok (parts_ok h3 y hy)

theorem adj_bare {l : List Part} {t : Int} : adjL t 0 (l.map bare) = l.map bare := by
  cases l with
  | nil => rfl
  | cons p l =>
    have : adj t 0 (bare p) = bare p := by
      unfold adj bare
      rw [Int.zero_mul]
      rfl
    rw [List.map_cons, adjL, this]

def exF (lo hi n d : Int) : Bool := decide (w6 (lo * d) ≤ n) && decide (n < w6 (w6 (lo + 1) * d)) && decide (n ≤ w6 (hi * d)) && decide (w6 (w6 (hi - 1) * d) < n)

theorem exF_ok {n d : Int} (hn : 0 ≤ n) (hn1 : n ≤ 100000 * 429981696) (hd : 0 < d) (hd1 : d ≤ 429981696) : exF (n / d) ((n + d - 1) / d) n d = true := by
  have a1 := Int.mul_ediv_add_emod n d
  have a2 := Int.emod_nonneg n (by omega : d ≠ 0)
  have a3 := Int.emod_lt_of_pos n hd
  have b1 := Int.mul_ediv_add_emod (n + d - 1) d
  have b2 := Int.emod_nonneg (n + d - 1) (by omega : d ≠ 0)
  have b3 := Int.emod_lt_of_pos (n + d - 1) hd
  have c1 : 0 ≤ n / d := Int.ediv_nonneg hn (by omega)
  have c2 : n / d ≤ n := Int.ediv_le_self d hn
  have c3 : 0 ≤ (n + d - 1) / d := Int.ediv_nonneg (by omega) (by omega)
  have c4 : (n + d - 1) / d ≤ n + d - 1 := Int.ediv_le_self d (by omega)
  rw [Int.mul_comm] at a1 b1
  have e1 : (n / d + 1) * d = n / d * d + d := by rw [Int.add_mul, Int.one_mul]
  have e2 : ((n + d - 1) / d - 1) * d = (n + d - 1) / d * d - d := by rw [Int.sub_mul, Int.one_mul]
  unfold exF
  rw [w6_in (x := n / d + 1) (by omega) (by omega), w6_in (x := (n + d - 1) / d - 1) (by omega) (by omega), e1, e2, w6_in (x := n / d * d) (by omega) (by omega), w6_in (by omega) (by omega), w6_in (by omega) (by omega), w6_in (by omega) (by omega)]
  simp only [Bool.and_eq_true, decide_eq_true_eq]
  omega

theorem prod_eq {l : List Part} (hp : ∀ p ∈ l, PartR p) (h8 : l.length ≤ 8) : ∀ i, i ≤ l.length → prodF (l.take i) = ⟨numR (l.take i), denR (l.take i)⟩
  | 0, _ => by simp [prodF, numR, denR]
  | i + 1, h => by
    have hm := getD_mem (l := l) (i := i) (by omega)
    have ht : ∀ p ∈ l.take (i + 1), PartR p := fun x hx => hp x (List.mem_of_mem_take hx)
    obtain ⟨q1, q2, q3, q4⟩ := pos_of ht
    have e : l.take (i + 1) = l.take i ++ [l.getD i default] := by
      rw [List.take_add_one, List.getD_eq_getElem?_getD, List.getElem?_eq_getElem (by omega)]; rfl
    have hl : (l.take (i + 1)).length ≤ 8 := by simp; omega
    have h2 := p12 hl
    have hn : numR (l.take (i + 1)) = numR (l.take i) * (l.getD i default).num := by rw [e, numR_app]; simp [numR]
    have hd : denR (l.take (i + 1)) = denR (l.take i) * (l.getD i default).den := by rw [e, denR_app]; simp [denR]
    rw [prod_succ (by omega), prod_eq hp h8 i (by omega), timesF]
    simp only
    rw [← hn, ← hd, w6_in (by omega) (by omega), w6_in (by omega) (by omega)]

theorem prod_all {l : List Part} (hp : ∀ p ∈ l, PartR p) (h8 : l.length ≤ 8) : prodF l = ⟨numR l, denR l⟩ := by
  have := prod_eq hp h8 l.length (Nat.le_refl _)
  rwa [List.take_length] at this

/-- The law on products. -/
theorem prod_law {l : List Part} {p t key : Int} (h : checkF l p t = 0) (hk : 0 ≤ key ∧ key ≤ 50000) :
    askedF (l.map bare) p t 0 key = 0 ∧ checkF (l.map bare) p t = 0 ∧ exF (travLo (l.map bare) p t 0 key) (travHi (l.map bare) p t 0 key) (w6 (key * (prodF l).num)) (prodF l).den = true ∧
      exF (touLo (l.map bare) p t) (touHi (l.map bare) p t) (w6 (p * (prodF l).num)) (prodF l).den = true := by
  obtain ⟨h8, h2, hpl, h3⟩ := valid h
  have hb := check_bare h
  have ha := asked_of hb (u := 0) (k := key) (by omega) hk
  obtain ⟨q1, q2, q3, q4⟩ := pos_of h3
  have hp12 := p12 h8
  have e1 : 0 ≤ key * numR l := Int.mul_nonneg hk.1 (Int.le_of_lt q1)
  have e2 : key * numR l ≤ 100000 * 429981696 := mul_le' (by omega) (by omega) hk.1 (by omega)
  have e3 : 0 ≤ p * numR l := Int.mul_nonneg hpl.1 (Int.le_of_lt q1)
  have e4 : p * numR l ≤ 100000 * 429981696 := mul_le' (by omega) (by omega) hpl.1 (by omega)
  rw [prod_all h3 h8]
  refine ⟨ha, hb, ?_, ?_⟩
  · obtain ⟨a1, a2, _⟩ := trav_num hb (u := 0) (k := key) (by omega) hk
    rw [adj_bare, travel_bare h3 hk.1] at a1 a2
    simp only [Int.one_mul] at a1 a2 ⊢
    rw [a1, a2, w6_in (by omega) (by omega)]
    exact exF_ok e1 e2 q2 (by omega)
  · obtain ⟨e, s, s8⟩ := uq_ok hb
    obtain ⟨_, i2, i3⟩ := iv_eq s s8
    rw [touLo, touHi, if_pos hb, if_pos hb, i2, i3, e, ← List.map_reverse, touch_bare, numR_rev, denR_rev]
    simp only [Int.one_mul]
    rw [w6_in (by omega) (by omega)]
    exact exF_ok e3 e4 q2 (by omega)

end Go.Proofs.Ytmhlinndhmdjlaa
