/- Bellows in plain Lean: what is run in two parts; a demand that stays. -/
import Derived.Test.YtliipeebknljdaaS6
set_option linter.all false
namespace Go.Proofs.Ytliipeebknljdaa
open Go Go.Vx

theorem vol_drop {b : Bel} {n : Int} {w : Bool} {l : List Iv} {v : Int} (m k : Nat) : volAt b n w ((l.drop m).take k) (volAt b n w (l.take m) v) = volAt b n w (l.take (m + k)) v := by
  rw [List.take_add, volAt, volAt, volAt, List.foldl_append]

theorem getD_drop {α : Type} [Inhabited α] (l : List α) (m i : Nat) : (l.drop m).getD i default = l.getD (m + i) default := by
  rw [List.getD_eq_getElem?_getD, List.getD_eq_getElem?_getD, List.getElem?_drop]

theorem ask_drop {b : Bel} {l : List Iv} {m : Nat} (h : askF b l = 0) : askF b (l.drop m) = 0 := by
  have hb := (ask_ok h).1
  have hl := (ask_ok h).2.1
  unfold askF at *
  rw [if_neg (by rw [hb]; simp)] at h ⊢
  rw [if_neg (by omega)] at h
  rw [if_neg (by rw [List.length_drop]; omega)]
  split at h
  · cases h
  · rename_i ha
    rw [if_neg]
    intro hany
    obtain ⟨x, hx, hxx⟩ := List.any_eq_true.1 hany
    exact ha (List.any_eq_true.2 ⟨x, List.mem_of_mem_drop hx, hxx⟩)

/-- Run in two parts. -/
theorem join_law {b : Bel} {l : List Iv} {m : Nat} (h : askF b l = 0) (hm : m ≤ l.length) (w : Bool) :
    askF { b with st := volAt b (inOf b w) w (l.take m) b.st } (l.drop m) = 0 ∧
    ∀ i, i < (l.drop m).length → (if w then ((runL { b with st := volAt b (inOf b w) w (l.take m) b.st } (l.drop m)).getD i default).1 = ((runL b l).getD (m + i) default).1 else ((runL { b with st := volAt b (inOf b w) w (l.take m) b.st } (l.drop m)).getD i default).2 = ((runL b l).getD (m + i) default).2) := by
  obtain ⟨hb, h1000, hd⟩ := ask_ok h
  have hbo := bel_ok hb
  obtain ⟨u1, u2⟩ := vol_ok (w := w) (fit_in hb w) hbo.2.2.2.1 hbo.2.2.2.2.1 hd m hm
  refine ⟨ask_st (ask_drop h) u1 u2, fun i hi => ?_⟩
  rw [List.length_drop] at hi
  have e1 := run_get (b := { b with st := volAt b (inOf b w) w (l.take m) b.st }) (l := l.drop m) (i := i) (by rw [List.length_drop]; omega)
  have e2 := run_get (b := b) (l := l) (i := m + i) (by omega)
  rw [e1, e2]
  cases w with
  | true => exact vol_drop m (i + 1)
  | false => exact vol_drop m (i + 1)

theorem rep_get {d : Iv} {n i : Nat} (h : i < n) : (List.replicate n d).getD i default = d := by
  rw [List.getD_eq_getElem?_getD, List.getElem?_replicate, if_pos h]; rfl

theorem ask_rep {b : Bel} {l : List Iv} {n : Nat} (h : askF b l = 0) (hl : 0 < l.length) (hn : n ≤ 1000) : askF b (List.replicate n ((l.getD 0 default).2, (l.getD 0 default).2)) = 0 := by
  obtain ⟨hb, h1000, hd⟩ := ask_ok h
  have h0 := hd 0 hl
  unfold askF
  rw [if_neg (by rw [hb]; simp), if_neg (by rw [List.length_replicate]; omega), if_neg]
  intro hany
  obtain ⟨x, hx, hxx⟩ := List.any_eq_true.1 hany
  obtain ⟨_, rfl⟩ := List.mem_replicate.1 hx
  have e1 : ivE [((l.getD 0 default).2, (l.getD 0 default).2)] = 0 := by
    unfold ivE
    rw [if_pos, if_pos]
    · simp
    · simp only [List.all_cons, List.all_nil, Bool.and_true, numOk, Bool.and_eq_true, decide_eq_true_eq]
      omega
  have e2 : wrongF ((l.getD 0 default).2, (l.getD 0 default).2) = false := by
    rw [wrongF, e1]
    simp only [decide_true, Bool.not_true, Bool.false_or, Bool.or_eq_false_iff, decide_eq_false_iff_not]
    omega
  rw [e2] at hxx; cases hxx

def lfl (b : Bel) (n d : Int) (k : Nat) : Bool := decide (hasF b n (lastV b n d k) < d)

theorem lastV_in {b : Bel} {n d : Int} (h : Fit b n) (hb : 0 ≤ b.st ∧ b.st ≤ b.hi) (hd : 0 ≤ d ∧ d ≤ 4000000000) : ∀ i, (∀ j, j < i → lfl b n d j = false) → 0 ≤ lastV b n d i ∧ lastV b n d i ≤ b.hi
  | 0, _ => hb
  | i + 1, ha => by
    obtain ⟨a1, a2⟩ := lastV_in h hb hd i fun j hj => ha j (by omega)
    obtain ⟨e1, e2, _⟩ := has_ok h a1 a2
    have := of_decide_eq_false (ha i (by omega))
    have := h.h1
    rw [lastV, w6_in (by omega) (by omega)]; omega

theorem side_same {w : Bool} {d : Int} : side w (d, d) = d := by cases w <;> rfl

theorem vol_last {b : Bel} {n d : Int} {w : Bool} (h : Fit b n) (hb : 0 ≤ b.st ∧ b.st ≤ b.hi) (hd : 0 ≤ d ∧ d ≤ 4000000000) {m : Nat} : ∀ i, i ≤ m → (∀ j, j < i → lfl b n d j = false) → volAt b n w ((List.replicate m (d, d)).take i) b.st = lastV b n d i
  | 0, _, _ => by simp [volAt, lastV]
  | i + 1, hi, ha => by
    have e := vol_last (w := w) h hb hd (m := m) i (by omega) fun j hj => ha j (by omega)
    obtain ⟨a1, a2⟩ := lastV_in h hb hd i fun j hj => ha j (by omega)
    obtain ⟨e1, e2, _⟩ := has_ok h a1 a2
    have h1 := of_decide_eq_false (ha i (by omega))
    have := h.h1
    rw [vol_succ (by rw [List.length_replicate]; omega), e, rep_get (by omega), side_same, lastV, w6_in (by omega) (by omega)]
    omega

theorem fail_last {b : Bel} {n d : Int} {w : Bool} (h : Fit b n) (hb : 0 ≤ b.st ∧ b.st ≤ b.hi) (hd : 0 ≤ d ∧ d ≤ 4000000000) {m i : Nat} (hi : i < m) (ha : ∀ j, j < i → lfl b n d j = false) : failAt b n w (List.replicate m (d, d)) b.st i = lfl b n d i := by
  rw [failAt, vol_last h hb hd i (by omega) ha, rep_get hi, side_same, lfl]

/-- A demand that stays: Lasts and Fails agree. -/
theorem last_law {b : Bel} {n d : Int} {w : Bool} (h : Fit b n) (hb : 0 ≤ b.st ∧ b.st ≤ b.hi) (hd : 0 ≤ d ∧ d ≤ 4000000000) (hl : (lastF b n d).2 = true) :
    failF b n w (List.replicate 150 (d, d)) b.st = (lastF b n d).1 ∨ (failF b n w (List.replicate 150 (d, d)) b.st = -1 ∧ ((lastF b n d).1 < 0 ∨ 150 ≤ (lastF b n d).1)) := by
  by_cases c : d ≤ n
  · left
    have hno : ∀ i, i < (List.replicate 150 (d, d)).length → failAt b n w (List.replicate 150 (d, d)) b.st i = false := by
      intro i hi
      rw [List.length_replicate] at hi
      obtain ⟨u1, u2⟩ := vol_ok (w := w) (l := List.replicate 150 (d, d)) h hb.1 hb.2 (fun j hj => by rw [List.length_replicate] at hj; rw [rep_get hj]; simp only; omega) i (by rw [List.length_replicate]; omega)
      refine decide_eq_false ?_
      rw [rep_get hi, side_same]
      have := h.n0; have := h.lo0; have := h.lh; have := h.n2
      generalize volAt b n w (List.take i (List.replicate 150 (d, d))) b.st = v at u1 u2
      rw [(flow_ok h u1 u2).2.2.2]
      by_cases c1 : v ≤ b.lo
      · rw [flow, if_pos c1]; omega
      · have := flow_mono h (by omega : 0 ≤ b.lo) (by omega : b.lo ≤ v) u2
        rw [flow, if_pos (Int.le_refl _)] at this
        omega
    rw [fail_none (fail_neg.2 hno), lastF, if_pos c]
  · unfold lastF at hl ⊢
    rw [if_neg c] at hl ⊢
    by_cases c2 : lastN b n d < 1000001
    · rw [if_pos c2]
      obtain ⟨_, a2, a3, a4⟩ := leastF_spec (f := lfl b n d) 1000001 0
      change ∀ j, 0 ≤ j → j < lastN b n d → _ at a3
      change lastN b n d < 1000001 + 0 → lfl b n d (lastN b n d) = true at a4
      by_cases c3 : lastN b n d < 150
      · left
        have e : failN b n w (List.replicate 150 (d, d)) b.st = lastN b n d := leastF_eq (fun j hj => by rw [fail_last h hb hd (by omega) fun q hq => a3 q (by omega) (by omega)]; exact a3 j (by omega) hj) (by rw [List.length_replicate]; omega) (fun _ => by rw [fail_last h hb hd c3 fun q hq => a3 q (by omega) hq]; exact a4 (by omega))
        rw [failF, e, if_pos (by rw [List.length_replicate]; omega)]
      · right
        refine ⟨fail_none (fail_neg.2 fun i hi => ?_), .inr (by simp only; omega)⟩
        rw [List.length_replicate] at hi
        rw [fail_last h hb hd hi fun q hq => a3 q (by omega) (by omega)]
        exact a3 i (by omega) (by omega)
    · rw [if_neg c2] at hl; cases hl

theorem lasts_two {b : Bel} {d : Int} (hb : belE b = 0) (hd : 0 ≤ d ∧ d ≤ 4000000000) : (lastsF b d = ((lastF b b.il d).1, (lastF b b.ih d).1, 0) ∧ (lastF b b.il d).2 = true ∧ (lastF b b.ih d).2 = true) ∨ lastsF b d = (0, 0, 3) := by
  unfold lastsF
  rw [if_neg (by rw [hb]; simp), if_neg (by omega)]
  by_cases c : (lastF b b.il d).2 = true ∧ (lastF b b.ih d).2 = true
  · rw [if_pos c]; exact .inl ⟨rfl, c.1, c.2⟩
  · rw [if_neg c]; exact .inr rfl

end Go.Proofs.Ytliipeebknljdaa
