/- Layouts in plain Lean: reach grows; pipes in rows stand well. -/
import Derived.Test.YtojaibhjfeojjaaMgX11e
import Derived.Test.YtojaibhjfeojjaaRows
set_option linter.all false
namespace Go.Proofs.Ytojaibhjfeojjaa
open Go Go.Vx

theorem sq_mono {a d : Int} (h0 : 0 ≤ a) (h : a ≤ d) : a * a ≤ d * d := Int.mul_le_mul h h h0 (by omega)
theorem sqnn (x : Int) : 0 ≤ x * x := by
  rw [← Int.natAbs_mul_self]; exact Int.natCast_nonneg _
theorem blk_mono {x y u v r s : Int} (h0 : 0 ≤ r) (h : r ≤ s) (hb : blkF x y u v r = true) : blkF x y u v s = true := by
  have m := sq_mono h0 h
  unfold blkF at *
  split
  · rename_i h1
    rw [if_pos h1, decide_eq_true_iff] at hb
    exact decide_eq_true (by omega)
  · rename_i h1
    rw [if_neg h1] at hb
    split
    · rename_i h2
      rw [if_pos h2, decide_eq_true_iff] at hb
      exact decide_eq_true (by omega)
    · rename_i h2
      rw [if_neg h2, decide_eq_true_iff] at hb
      have a0 : 0 ≤ sqF x y := Int.add_nonneg (sqnn x) (sqnn y)
      have := Int.mul_le_mul_of_nonneg_right m a0
      exact decide_eq_true (by omega)
theorem reach_mono {b c : Brd} {l m : List Std} {w : Int × Int} {p : Std} (ha0 : 0 ≤ b.a) (ha : b.a ≤ c.a) (hs0 : 0 ≤ c.s) (hs : c.s ≤ b.s) (hp : 0 ≤ p.r) (hl : ∀ q ∈ l, 0 ≤ q.r) (hm : ∀ q ∈ m, q ∈ l) (h : reachF b l w p = true) : reachF c m w p = true := by
  unfold reachF at *
  rw [Bool.and_eq_true, Bool.not_eq_true', Bool.not_eq_true', decide_eq_false_iff_not, List.any_eq_false] at *
  have h1 := sq_mono (a := b.a + p.r) (d := c.a + p.r) (by omega) (by omega)
  refine ⟨by omega, fun q hq => ?_⟩
  have h2 := h.2 q (hm q hq)
  have h3 := hl q (hm q hq)
  intro hh
  apply h2
  unfold hitF at *
  rw [Bool.and_eq_true] at *
  exact ⟨hh.1, blk_mono (by omega) (by omega) hh.2⟩

/-! ### Pipes in rows -/

theorem row_mem {b : Brd} {y : Int} (hc : 0 ≤ b.c) : ∀ (l : List Ft) (x : Int) (p : Std), (∀ f ∈ l, 1 ≤ f.1) → p ∈ rowF b y l x → p.y = y ∧ x + p.r ≤ p.x ∧ p.x + p.r ≤ wideG b (x - b.c) l ∧ ∃ f ∈ l, p.r = f.1 ∧ p.h = f.2
  | [], _, _, _, h => by cases h
  | f :: l, x, p, hl, h => by
    have hl2 : ∀ g ∈ l, 1 ≤ g.1 := fun g hg => hl g (List.mem_cons_of_mem _ hg)
    have e : wideG b (x - b.c) (f :: l) = wideG b (x + (2 * f.1 + b.c) - b.c) l := by
      unfold wideG; rw [List.foldl_cons]; congr 1; omega
    rw [rowF] at h
    rcases List.mem_cons.1 h with rfl | h
    · have := wideG_le hc l (x + (2 * f.1 + b.c) - b.c) hl2
      rw [e]
      refine ⟨rfl, Int.le_refl _, ?_, f, List.mem_cons_self, rfl, rfl⟩
      show x + f.1 + f.1 ≤ _
      omega
    · obtain ⟨h1, h2, h3, g, hg, h4⟩ := row_mem hc l _ p hl2 h
      have := hl f List.mem_cons_self
      exact ⟨h1, by omega, by rw [e]; exact h3, g, List.mem_cons_of_mem _ hg, h4⟩
theorem most_le {l : List Ft} : ∀ f ∈ l, f.1 ≤ mostF l := by
  have key : ∀ (l : List Ft) (a : Int), a ≤ l.foldl (fun m f => max m f.1) a ∧ ∀ f ∈ l, f.1 ≤ l.foldl (fun m f => max m f.1) a := by
    intro l
    induction l with
    | nil => intro a; exact ⟨Int.le_refl _, fun f hf => by cases hf⟩
    | cons g l ih =>
      intro a
      obtain ⟨i1, i2⟩ := ih (max a g.1)
      refine ⟨by rw [List.foldl_cons]; omega, fun f hf => ?_⟩
      rw [List.foldl_cons]
      rcases List.mem_cons.1 hf with rfl | hf
      · omega
      · exact i2 f hf
  exact (key l 0).2
theorem dvD_cons {b : Brd} {l : List Ft} {k : Nat} {ks : List Nat} : dvD b l (k :: ks) = 2 * mostF (l.take k) + dvD b (l.drop k) ks + (if 0 < ks.length then b.c else 0) := by
  have e := deep_most (l.take k) 0
  rw [show (2 : Int) * 0 = 0 from rfl] at e
  rw [dvD, e]; rfl
theorem place_nil {b : Brd} {ks : List Nat} {y : Int} : ∀ {l : List Ft}, l = [] → placeL b ks l y = [] := by
  induction ks generalizing y with
  | nil => intro l _; rfl
  | cons k ks ih => intro l h; subst h; rw [placeL, List.take_nil, rowF, List.drop_nil, ih rfl]; rfl
theorem place_mem {b : Brd} (hc : 0 ≤ b.c) : ∀ (ks : List Nat) (l : List Ft) (y : Int) (p : Std), (∀ f ∈ l, 1 ≤ f.1) → dvP b l ks → p ∈ placeL b ks l y →
    y + p.r ≤ p.y ∧ p.y + p.r ≤ y + dvD b l ks ∧ p.r ≤ p.x ∧ p.x + p.r ≤ b.w ∧ ∃ f ∈ l, p.r = f.1 ∧ p.h = f.2
  | [], _, _, _, _, _, h => by cases h
  | k :: ks, l, y, p, hl, hd, h => by
    obtain ⟨h1, hk, hw, hd⟩ := hd
    have hlt : ∀ f ∈ l.take k, 1 ≤ f.1 := fun f hf => hl f (List.mem_of_mem_take hf)
    have h0 := dvD_nn hc ks (l.drop k)
    rw [dvD_cons]
    rw [placeL] at h
    rcases List.mem_append.1 h with h | h
    · obtain ⟨a1, a2, a3, f, hf, a4, a5⟩ := row_mem hc _ _ _ hlt h
      have hm := most_le f hf
      have := hlt f hf
      rw [show (0 : Int) - b.c = -b.c by omega] at a3
      refine ⟨by omega, ?_, by omega, by omega, f, List.mem_of_mem_take hf, a4, a5⟩
      split <;> omega
    · obtain ⟨a1, a2, a3, a4, f, hf, a5⟩ := place_mem hc ks _ _ _ (fun f hf => hl f (List.mem_of_mem_drop hf)) hd h
      have hm : 0 ≤ mostF (l.take k) := by
        have hp : 0 < (l.take k).length := by rw [List.length_take]; omega
        have hx := most_le _ (getD_mem (l := l.take k) (i := 0) hp)
        have hy := hlt _ (getD_mem (l := l.take k) (i := 0) hp)
        omega
      refine ⟨by omega, ?_, a3, a4, f, List.mem_of_mem_drop hf, a5⟩
      cases ks with
      | nil => cases h
      | cons a ks => rw [if_pos (by simp)]; omega
/-- One stands behind the other, or beside it. -/
def sepF (b : Brd) (p q : Std) : Prop := p.x + p.r + b.c + q.r ≤ q.x ∨ p.y + p.r + b.c + q.r ≤ q.y
theorem row_sep {b : Brd} {y : Int} (hc : 0 ≤ b.c) : ∀ (l : List Ft) (x : Int), (∀ f ∈ l, 1 ≤ f.1) → (rowF b y l x).Pairwise (sepF b)
  | [], _, _ => List.Pairwise.nil
  | f :: l, x, hl => by
    have hl2 : ∀ g ∈ l, 1 ≤ g.1 := fun g hg => hl g (List.mem_cons_of_mem _ hg)
    refine List.Pairwise.cons (fun q hq => ?_) (row_sep hc l _ hl2)
    obtain ⟨_, h2, _⟩ := row_mem hc l _ q hl2 hq
    left
    show x + f.1 + f.1 + b.c + q.r ≤ q.x
    omega
theorem place_sep {b : Brd} (hc : 0 ≤ b.c) : ∀ (ks : List Nat) (l : List Ft) (y : Int), (∀ f ∈ l, 1 ≤ f.1) → dvP b l ks → (placeL b ks l y).Pairwise (sepF b)
  | [], _, _, _, _ => List.Pairwise.nil
  | k :: ks, l, y, hl, hd => by
    obtain ⟨h1, hk, hw, hd⟩ := hd
    have hlt : ∀ f ∈ l.take k, 1 ≤ f.1 := fun f hf => hl f (List.mem_of_mem_take hf)
    have hl2 : ∀ f ∈ l.drop k, 1 ≤ f.1 := fun f hf => hl f (List.mem_of_mem_drop hf)
    rw [placeL, List.pairwise_append]
    refine ⟨row_sep hc _ _ hlt, place_sep hc ks _ _ hl2 hd, fun p hp q hq => ?_⟩
    obtain ⟨a1, _, _, f, hf, a4, _⟩ := row_mem hc _ _ _ hlt hp
    have hm := most_le f hf
    obtain ⟨c1, _⟩ := place_mem hc ks _ _ q hl2 hd hq
    right
    omega
theorem place_len {b : Brd} : ∀ (ks : List Nat) (l : List Ft) (y : Int), dvP b l ks → (placeL b ks l y).length = l.length
  | [], l, _, hd => by have hd : l = [] := hd; subst hd; rfl
  | k :: ks, l, y, hd => by
    obtain ⟨h1, hk, hw, hd⟩ := hd
    rw [placeL, List.length_append, rowF_len, place_len ks _ _ hd, List.length_take, List.length_drop]; omega
theorem sep_near {b : Brd} {p q : Std} (hc : 0 ≤ b.c) (hp : 0 ≤ p.r) (hq : 0 ≤ q.r) (h : sepF b p q) : nearF b q p = false := by
  unfold nearF sqF
  rw [decide_eq_false_iff_not]
  have z1 := sqnn (q.x - p.x)
  have z2 := sqnn (q.y - p.y)
  rcases h with h | h
  · have := sq_mono (a := q.r + p.r + b.c) (d := q.x - p.x) (by omega) (by omega)
    omega
  · have := sq_mono (a := q.r + p.r + b.c) (d := q.y - p.y) (by omega) (by omega)
    omega
/-- What stands in rows stands well. -/
theorem place_check {b : Brd} (hb : okB b) (hw : wrongF b = false) {l : List Ft} {ks : List Nat} (hl : ∀ f ∈ l, okF f) (h2 : l.length ≤ 200) (hd : dvP b l ks) (hdep : dvD b l ks ≤ b.d) : checkF b (placeL b ks l 0) = 0 := by
  obtain ⟨⟨_, _⟩, ⟨_, _⟩, ⟨hc, _⟩, _, _, h8, _⟩ := hb
  have hl1 : ∀ f ∈ l, 1 ≤ f.1 := fun f hf => (hl f hf).1.1
  have hlen := place_len ks l 0 hd
  have hmem := fun p hp => place_mem hc ks l 0 p hl1 hd hp
  have hpipe : ∀ p ∈ placeL b ks l 0, pipeF p = false := fun p hp => by
    obtain ⟨a1, a2, a3, a4, f, hf, a5, a6⟩ := hmem p hp
    obtain ⟨⟨_, _⟩, _, _⟩ := hl f hf
    simp only [pipeF, footF, Bool.or_eq_false_iff, outF_no]
    omega
  have hchk : chkF b (placeL b ks l 0) = 0 := by
    unfold chkF
    rw [if_neg (by omega), hw, Bool.false_or, if_neg]
    rw [Bool.not_eq_true, List.any_eq_false]
    intro p hp
    rw [hpipe p hp]; simp
  unfold checkF standF
  rw [if_neg (by omega), if_neg, if_neg]
  · rw [Bool.not_eq_true, twiceF, List.any_eq_false]
    intro i hi
    have hi := List.mem_range.1 hi
    rw [Bool.not_eq_true, List.any_eq_false]
    intro q hq
    obtain ⟨k, hk, rfl⟩ := mem_getD hq
    rw [List.length_take] at hk
    have e : ((placeL b ks l 0).take i).getD k default = (placeL b ks l 0).getD k default := by
      rw [List.getD_eq_getElem?_getD, List.getElem?_take, if_pos (by omega), ← List.getD_eq_getElem?_getD]
    rw [e]
    have hs := List.pairwise_iff_getElem.1 (place_sep hc ks l 0 hl1 hd) k i (by omega) (by omega) (by omega)
    have g : ∀ j, (hj : j < (placeL b ks l 0).length) → (placeL b ks l 0)[j] = (placeL b ks l 0).getD j default := fun j hj => by
      rw [List.getD_eq_getElem?_getD, List.getElem?_eq_getElem hj]; rfl
    rw [g k (by omega), g i (by omega)] at hs
    have r : ∀ j, j < (placeL b ks l 0).length → 0 ≤ ((placeL b ks l 0).getD j default).r := fun j hj => by
      obtain ⟨_, _, _, _, f, hf, a5, _⟩ := hmem _ (getD_mem hj)
      have := hl1 f hf
      omega
    rw [sep_near hc (r k (by omega)) (r i (by omega)) hs]; simp
  · rw [Bool.not_eq_true, List.any_eq_false]
    intro p hp
    obtain ⟨a1, a2, a3, a4, _⟩ := hmem p hp
    have : offF b p = false := by
      simp only [offF, Bool.or_eq_false_iff, outF_no]; omega
    rw [this]; simp
end Go.Proofs.Ytojaibhjfeojjaa

/- Layouts in plain Lean: growth. -/
set_option linter.all false
namespace Go.Proofs.Ytojaibhjfeojjaa
open Go Go.Vx

theorem wrongF_ok {b : Brd} (h : okB b) : wrongF b = false := by
  obtain ⟨h1, h2, h3, h4, h5, _, h6⟩ := h
  simp only [wrongF, Bool.or_eq_false_iff, outF_no, List.any_eq_false, placeF]
  refine ⟨⟨⟨⟨⟨h1, h2⟩, h3⟩, h4⟩, h5⟩, fun p hp => ?_⟩
  rw [Bool.not_eq_true, Bool.or_eq_false_iff, outF_no, outF_no]
  exact h6 p hp
theorem pipeF_ok {p : Std} (h : okP p) : pipeF p = false := by
  simp only [pipeF, footF, Bool.or_eq_false_iff, outF_no]
  exact ⟨⟨⟨h.1, h.2.1⟩, h.2.2.1⟩, h.2.2.2⟩
theorem chk_intro {b : Brd} {l : List Std} (hb : okB b) (hl : ∀ p ∈ l, okP p) (h2 : l.length ≤ 200) : chkF b l = 0 := by
  have := hb.2.2.2.2.2.1
  unfold chkF
  rw [if_neg (by omega), wrongF_ok hb, Bool.false_or, if_neg]
  rw [Bool.not_eq_true, List.any_eq_false]
  intro p hp
  rw [pipeF_ok (hl p hp)]; simp
theorem ask_intro {b : Brd} {l : List Ft} (hb : okB b) (hl : ∀ f ∈ l, okF f) (h2 : l.length ≤ 200) : askF b l = 0 := by
  have := hb.2.2.2.2.2.1
  unfold askF
  rw [if_neg (by omega), wrongF_ok hb, Bool.false_or, if_neg]
  rw [Bool.not_eq_true, List.any_eq_false]
  intro f hf
  have := hl f hf
  have e : footF f.1 f.2 = false := by
    simp only [footF, Bool.or_eq_false_iff, outF_no]; exact ⟨this.1, this.2⟩
  rw [e]; simp
def growB (b : Brd) (m0 m1 m2 : Int) : Brd := ⟨min (b.w + m2) 10000000, b.d, b.c, min (b.a + m0) 10000000, max (b.s - m1) 0, b.wk⟩
theorem growB_ok {b : Brd} {m0 m1 m2 : Int} (hb : okB b) (h0 : 0 ≤ m0) (h1 : 0 ≤ m1) (h2 : 0 ≤ m2) : okB (growB b m0 m1 m2) ∧ b.a ≤ (growB b m0 m1 m2).a ∧ (growB b m0 m1 m2).s ≤ b.s ∧ 0 ≤ (growB b m0 m1 m2).s ∧ b.w ≤ (growB b m0 m1 m2).w := by
  obtain ⟨⟨_, _⟩, ⟨_, _⟩, ⟨_, _⟩, ⟨_, _⟩, ⟨_, _⟩, h8, hw⟩ := hb
  refine ⟨⟨?_, ⟨by assumption, by assumption⟩, ⟨by assumption, by assumption⟩, ?_, ?_, h8, hw⟩, ?_, ?_, ?_, ?_⟩ <;> unfold growB <;> simp only <;> omega
theorem grow_reach {b : Brd} {m0 m1 m2 : Int} {l : List Std} (hb : okB b) (hl : ∀ p ∈ l, okP p) (h0 : 0 ≤ m0) (h1 : 0 ≤ m1) (h2 : 0 ≤ m2) {p : Std} (hp : p ∈ l) :
    ∀ x ∈ reachL b l p, x ∈ reachL (growB b m0 m1 m2) (l.take (l.length - 1)) p := by
  intro x hx
  obtain ⟨_, g1, g2, g3, _⟩ := growB_ok (m0 := m0) (m1 := m1) (m2 := m2) hb h0 h1 h2
  unfold reachL at *
  rw [List.mem_filter] at *
  refine ⟨hx.1, reach_mono (by have := hb.2.2.2.2.1; omega) g1 g3 g2 (by have := (hl p hp).1; omega) (fun q hq => by have := (hl q hq).1; omega) (fun q hq => List.mem_of_mem_take hq) hx.2⟩
theorem rows_of {b : Brd} {l : List Ft} (h : (rowsR b l).2 = 0) : askF b l = 0 ∧ (headP b l).is = true ∧ (headP b l).depth ≤ b.d ∧ (rowsR b l).1 = placeL b (divL b l) l 0 := by
  unfold rowsR at *
  split at h
  · rename_i hh; exact absurd h hh
  · rename_i h1
    split at h
    · cases h
    · rename_i h2
      have h2 := not_or.1 h2
      rw [if_neg h1, if_neg (by rw [not_or]; exact h2)]
      refine ⟨by omega, by simpa using h2.1, by omega, rfl⟩
theorem ask_ok {b : Brd} {l : List Ft} (h : askF b l = 0) : okB b ∧ (∀ f ∈ l, okF f) ∧ l.length ≤ 200 := by
  unfold askF at h
  split at h
  · cases h
  · split at h
    · cases h
    · rename_i h1 h2
      rw [Bool.not_eq_true, Bool.or_eq_false_iff] at h2
      refine ⟨wrongF_no (by omega) h2.1, fun f hf => ?_, by omega⟩
      have := List.any_eq_false.1 h2.2 f hf
      rw [Bool.not_eq_true] at this
      simp only [footF, Bool.or_eq_false_iff, outF_no] at this
      exact ⟨this.1, this.2⟩
theorem rows_rng {b : Brd} {l : List Ft} (h : (rowsR b l).2 = 0) : (rowsR b l).1.length ≤ 200 ∧ ∀ p ∈ (rowsR b l).1, -1000000000000 ≤ p.y + p.r ∧ p.y + p.r ≤ 1000000000000 := by
  obtain ⟨h1, h2, h3, h4⟩ := rows_of h
  obtain ⟨hb, hl, hlen⟩ := ask_ok h1
  obtain ⟨d1, d2, _⟩ := div_is hb.2.2.1 _ l rfl hlen hl h2
  rw [h4]
  refine ⟨by rw [place_len _ _ _ d1]; exact hlen, fun p hp => ?_⟩
  obtain ⟨a1, a2, _, _, f, hf, a5, _⟩ := place_mem hb.2.2.1.1 _ l 0 p (fun f hf => (hl f hf).1.1) d1 hp
  have := hb.2.1
  have := (hl f hf).1
  omega
theorem grow_rows {b : Brd} {m0 m1 m2 : Int} {l : List Ft} (h0 : 0 ≤ m0) (h1 : 0 ≤ m1) (h2 : 0 ≤ m2) (hl0 : 0 < l.length) (h : (rowsR b l).2 = 0) :
    (rowsR (growB b m0 m1 m2) (l.take (l.length - 1))).2 = 0 ∧ deepL 0 (rowsR (growB b m0 m1 m2) (l.take (l.length - 1))).1 ≤ deepL 0 (rowsR b l).1 := by
  obtain ⟨q1, q2, q3, q4⟩ := rows_of h
  obtain ⟨hb, hl, hlen⟩ := ask_ok q1
  obtain ⟨gb, _, _, _, gw⟩ := growB_ok (m0 := m0) (m1 := m1) (m2 := m2) hb h0 h1 h2
  have hl1 : ∀ f ∈ l, 1 ≤ f.1 := fun f hf => (hl f hf).1.1
  obtain ⟨d1, d2, d3⟩ := div_is hb.2.2.1 _ l rfl hlen hl q2
  obtain ⟨ks', e1, e2⟩ := div_init (c := growB b m0 m1 m2) hb.2.2.1.1 rfl gw (divL b l) l hl0 hl1 d1
  have hlt : ∀ f ∈ l.take (l.length - 1), okF f := fun f hf => hl f (List.mem_of_mem_take hf)
  have hltn : (l.take (l.length - 1)).length ≤ 200 := by rw [List.length_take]; omega
  obtain ⟨i1, i2⟩ := div_best gb.2.2.1 ks' (l.take (l.length - 1)) hltn hlt e1
  have hdep : (headP (growB b m0 m1 m2) (l.take (l.length - 1))).depth ≤ (headP b l).depth := by omega
  have hask := ask_intro gb hlt hltn
  have hR : rowsR (growB b m0 m1 m2) (l.take (l.length - 1)) = (placeL (growB b m0 m1 m2) (divL (growB b m0 m1 m2) (l.take (l.length - 1))) (l.take (l.length - 1)) 0, 0) := by
    unfold rowsR
    rw [if_neg (by omega), if_neg]
    rw [not_or]
    refine ⟨by rw [i1]; simp, ?_⟩
    show ¬ b.d < _
    omega
  rw [hR, q4]
  refine ⟨rfl, ?_⟩
  obtain ⟨f1, f2, f3⟩ := div_is gb.2.2.1 _ (l.take (l.length - 1)) rfl hltn hlt i1
  rw [deep_place gb.2.2.1.1 _ _ _ _ (fun f hf => (hlt f hf).1.1) f1, deep_place hb.2.2.1.1 _ _ _ _ hl1 d1, f2, d2]
  have hn : ¬ (divL b l).length = 0 := by
    intro hz
    have : divL b l = [] := List.eq_nil_of_length_eq_zero hz
    rw [this] at d1
    have d1 : l = [] := d1
    rw [d1] at hl0; simp at hl0
  have hp := dvD_nn hb.2.2.1.1 (divL b l) l
  rw [if_neg hn]
  split <;> omega
end Go.Proofs.Ytojaibhjfeojjaa

/- Layouts, walked: within, deep; the law of growth. -/
set_option linter.all false
namespace Go.Proofs.Ytojaibhjfeojjaa
open Go Go.Vx
set_option maxRecDepth 100000
set_option maxHeartbeats 4000000

def v18 : VF := { ntmps := 34, res := [.tmp 4], body :=
 (.seq (.region [⟨(some 4), none, .mov, [.cn (.bool false)]⟩])
 (.seq (.seq (.region [⟨(some 5), none, .mov, [.cn (.int .i64 0)]⟩])
 (.block 0 (.loop (.seq (.seq (.region [⟨(some 8), none, .mov, [.tm 5]⟩,
  ⟨(some 9), none, .mov, [.tm 0]⟩,
  ⟨(some 10), none, .len, [.tm 9]⟩,
  ⟨(some 11), none, (.cmp .lss), [.tm 8, .tm 10]⟩])
 (.cond (.tm 11) .skip
  (.exit 0)))
 (.seq (.block 1 (.seq (.region [⟨(some 6), none, .mov, [.cn (.bool false)]⟩])
 (.seq (.seq (.region [⟨(some 7), none, .mov, [.cn (.int .i64 0)]⟩])
 (.block 2 (.loop (.seq (.seq (.region [⟨(some 14), none, .mov, [.tm 7]⟩,
  ⟨(some 15), none, .mov, [.tm 1]⟩,
  ⟨(some 16), none, .len, [.tm 15]⟩,
  ⟨(some 17), none, (.cmp .lss), [.tm 14, .tm 16]⟩])
 (.cond (.tm 17) .skip
  (.exit 2)))
 (.seq (.block 3 (.draw [] [⟨⟨(some 20), none, .mov, [.tm 6]⟩, []⟩,
  ⟨⟨(some 21), none, .mov, [.tm 20]⟩, []⟩,
  ⟨⟨(some 22), (some (21, false)), .mov, [.tm 0]⟩, []⟩,
  ⟨⟨(some 23), (some (21, false)), .mov, [.tm 5]⟩, []⟩,
  ⟨⟨(some 24), (some (21, false)), (.idxAddr 1), [.tm 22, .tm 23]⟩, []⟩,
  ⟨⟨(some 25), (some (21, false)), (.load false 1), [.tm 24]⟩, []⟩,
  ⟨⟨(some 26), (some (21, false)), .mov, [.tm 1]⟩, []⟩,
  ⟨⟨(some 27), (some (21, false)), .mov, [.tm 7]⟩, []⟩,
  ⟨⟨(some 28), (some (21, false)), (.idxAddr 1), [.tm 26, .tm 27]⟩, []⟩,
  ⟨⟨(some 29), (some (21, false)), (.load false 1), [.tm 28]⟩, []⟩,
  ⟨⟨(some 30), (some (21, false)), (.cmp .eql), [.tm 25, .tm 29]⟩, []⟩,
  ⟨⟨(some 31), none, .or, [.tm 21, .tm 30]⟩, []⟩,
  ⟨⟨(some 6), none, .mov, [.tm 31]⟩, []⟩]))
 (.region [⟨(some 18), none, .mov, [.tm 7]⟩,
  ⟨(some 19), none, (.ari .add), [.tm 18, .cn (.int .i64 1)]⟩,
  ⟨(some 7), none, .mov, [.tm 19]⟩]))))))
 (.seq (.region [⟨(some 32), none, .mov, [.tm 6]⟩,
  ⟨(some 33), none, .not, [.tm 32]⟩])
 (.cond (.tm 33) (.seq (.region [⟨(some 4), none, .mov, [.cn (.bool false)]⟩])
 .ret)
  .skip)))))
 (.region [⟨(some 12), none, .mov, [.tm 5]⟩,
  ⟨(some 13), none, (.ari .add), [.tm 12, .cn (.int .i64 1)]⟩,
  ⟨(some 5), none, .mov, [.tm 13]⟩]))))))
 (.seq (.region [⟨(some 4), none, .mov, [.cn (.bool true)]⟩])
 .ret))) }
theorem v18_is : vfunc Try.prog Try.f18 = some v18 := by kernel_rfl
def v19 : VF := { ntmps := 25, res := [.tmp 2], body :=
 (.seq (.region [⟨(some 2), none, .mov, [.cn (.int .i64 0)]⟩])
 (.seq (.region [⟨(some 3), none, .mov, [.cn (.int .i64 0)]⟩])
 (.seq (.seq (.region [⟨(some 4), none, .mov, [.cn (.int .i64 0)]⟩])
 (.block 0 (.loop (.seq (.seq (.region [⟨(some 5), none, .mov, [.tm 4]⟩,
  ⟨(some 6), none, .mov, [.tm 0]⟩,
  ⟨(some 7), none, .len, [.tm 6]⟩,
  ⟨(some 8), none, (.cmp .lss), [.tm 5, .tm 7]⟩])
 (.cond (.tm 8) .skip
  (.exit 0)))
 (.seq (.block 1 (.draw [] [⟨⟨(some 11), none, .mov, [.tm 3]⟩, []⟩,
  ⟨⟨(some 12), none, .mov, [.tm 0]⟩, []⟩,
  ⟨⟨(some 13), none, .mov, [.tm 4]⟩, []⟩,
  ⟨⟨(some 14), none, (.idxAddr 4), [.tm 12, .tm 13]⟩, []⟩,
  ⟨⟨(some 15), none, (.fieldAddr 1), [.tm 14]⟩, []⟩,
  ⟨⟨(some 16), none, (.load false 1), [.tm 15]⟩, []⟩,
  ⟨⟨(some 17), none, .mov, [.tm 0]⟩, []⟩,
  ⟨⟨(some 18), none, .mov, [.tm 4]⟩, []⟩,
  ⟨⟨(some 19), none, (.idxAddr 4), [.tm 17, .tm 18]⟩, []⟩,
  ⟨⟨(some 20), none, (.fieldAddr 2), [.tm 19]⟩, []⟩,
  ⟨⟨(some 21), none, (.load false 1), [.tm 20]⟩, []⟩,
  ⟨⟨(some 22), none, (.ari .add), [.tm 16, .tm 21]⟩, []⟩,
  ⟨⟨(some 23), none, .max, [.tm 11, .tm 22]⟩, []⟩,
  ⟨⟨(some 3), none, .mov, [.tm 23]⟩, []⟩]))
 (.region [⟨(some 9), none, .mov, [.tm 4]⟩,
  ⟨(some 10), none, (.ari .add), [.tm 9, .cn (.int .i64 1)]⟩,
  ⟨(some 4), none, .mov, [.tm 10]⟩]))))))
 (.seq (.region [⟨(some 24), none, .mov, [.tm 3]⟩,
  ⟨(some 2), none, .mov, [.tm 24]⟩])
 .ret)))) }
theorem v19_is : vfunc Try.prog Try.f19 = some v19 := by kernel_rfl
def v5 : VF := { ntmps := 141, res := [.tmp 6], body :=
 (.seq (.region [⟨(some 3), none, .box, [.tm 0]⟩,
  ⟨(some 5), none, .box, [.tm 2]⟩,
  ⟨(some 6), none, .mov, [.cn (.bool false)]⟩])
 (.seq (.seq (.region [⟨(some 18), none, .mov, [.tm 1]⟩,
  ⟨(some 19), none, .len, [.tm 18]⟩,
  ⟨(some 20), none, (.cmp .lss), [.tm 19, .cn (.int .i64 2)]⟩,
  ⟨(some 21), none, .mov, [.tm 20]⟩,
  ⟨(some 22), (some (21, false)), .mov, [.tm 1]⟩,
  ⟨(some 23), (some (21, false)), .len, [.tm 22]⟩,
  ⟨(some 24), (some (21, false)), (.cmp .gtr), [.tm 23, .cn (.int .i64 40)]⟩,
  ⟨(some 25), none, .or, [.tm 21, .tm 24]⟩,
  ⟨(some 26), none, .mov, [.tm 25]⟩,
  ⟨(some 27), (some (26, false)), (.fieldAddr 5), [.tm 3]⟩,
  ⟨(some 28), (some (26, false)), (.load false 1), [.tm 27]⟩,
  ⟨(some 29), (some (26, false)), .len, [.tm 28]⟩,
  ⟨(some 30), (some (26, false)), (.cmp .gtr), [.tm 29, .cn (.int .i64 20)]⟩,
  ⟨(some 31), none, .or, [.tm 26, .tm 30]⟩])
 (.cond (.tm 31) (.seq (.region [⟨(some 32), none, (.call 10), []⟩,
  ⟨(some 6), none, .mov, [.tm 32]⟩])
 .ret)
  .skip))
 (.seq (.region [⟨(some 34), none, (.load true 6), [.tm 3]⟩,
  ⟨(some 35), none, .mov, [.tm 1]⟩,
  ⟨(some 36), none, (.call 17), [.tm 34, .tm 35, .cn (.int .i64 0)]⟩,
  ⟨(some 33), none, .mov, [.tm 36]⟩,
  ⟨(some 37), none, (.ext 0), [.tm 33]⟩,
  ⟨(some 38), none, (.ext 1), [.tm 33]⟩,
  ⟨(some 7), none, .mov, [.tm 37]⟩,
  ⟨(some 8), none, .mov, [.tm 38]⟩])
 (.seq (.seq (.region [⟨(some 39), none, .mov, [.tm 8]⟩,
  ⟨(some 40), none, (.cmp .neq), [.tm 39, .cn (.int .i64 0)]⟩])
 (.cond (.tm 40) (.seq (.region [⟨(some 41), none, .mov, [.tm 7]⟩,
  ⟨(some 42), none, .len, [.tm 41]⟩,
  ⟨(some 43), none, (.cmp .eql), [.tm 42, .cn (.int .i64 0)]⟩,
  ⟨(some 44), none, .mov, [.tm 43]⟩,
  ⟨(some 45), (some (44, true)), (.call 10), []⟩,
  ⟨(some 46), none, .and, [.tm 44, .tm 45]⟩,
  ⟨(some 6), none, .mov, [.tm 46]⟩])
 .ret)
  .skip))
 (.seq (.region [⟨(some 47), none, (.load true 6), [.tm 3]⟩,
  ⟨(some 9), none, (.alloc [(.int .i64 0), (.int .i64 0), (.int .i64 0), (.int .i64 0), (.int .i64 0), .nil]), []⟩,
  ⟨none, none, (.store 6), [.tm 9, .tm 47]⟩])
 (.seq (.region [⟨(some 48), none, (.fieldAddr 3), [.tm 3]⟩,
  ⟨(some 49), none, (.load false 1), [.tm 48]⟩,
  ⟨(some 50), none, (.idxArr 3 1), [.tm 5, .cn (.int .i64 0)]⟩,
  ⟨(some 51), none, (.load false 1), [.tm 50]⟩,
  ⟨(some 52), none, (.conv .i64), [.tm 51]⟩,
  ⟨(some 53), none, (.ari .add), [.tm 49, .tm 52]⟩,
  ⟨(some 54), none, .min, [.tm 53, .cn (.int .i64 10000000)]⟩,
  ⟨(some 55), none, (.fieldAddr 3), [.tm 9]⟩,
  ⟨none, none, (.store 1), [.tm 55, .tm 54]⟩])
 (.seq (.region [⟨(some 56), none, (.fieldAddr 4), [.tm 3]⟩,
  ⟨(some 57), none, (.load false 1), [.tm 56]⟩,
  ⟨(some 58), none, (.idxArr 3 1), [.tm 5, .cn (.int .i64 1)]⟩,
  ⟨(some 59), none, (.load false 1), [.tm 58]⟩,
  ⟨(some 60), none, (.conv .i64), [.tm 59]⟩,
  ⟨(some 61), none, (.ari .sub), [.tm 57, .tm 60]⟩,
  ⟨(some 62), none, .max, [.tm 61, .cn (.int .i64 0)]⟩,
  ⟨(some 63), none, (.fieldAddr 4), [.tm 9]⟩,
  ⟨none, none, (.store 1), [.tm 63, .tm 62]⟩])
 (.seq (.region [⟨(some 64), none, (.fieldAddr 0), [.tm 3]⟩,
  ⟨(some 65), none, (.load false 1), [.tm 64]⟩,
  ⟨(some 66), none, (.idxArr 3 1), [.tm 5, .cn (.int .i64 2)]⟩,
  ⟨(some 67), none, (.load false 1), [.tm 66]⟩,
  ⟨(some 68), none, (.conv .i64), [.tm 67]⟩,
  ⟨(some 69), none, (.ari .add), [.tm 65, .tm 68]⟩,
  ⟨(some 70), none, .min, [.tm 69, .cn (.int .i64 10000000)]⟩,
  ⟨(some 71), none, (.fieldAddr 0), [.tm 9]⟩,
  ⟨none, none, (.store 1), [.tm 71, .tm 70]⟩])
 (.seq (.draw [] [⟨⟨(some 73), none, (.load true 6), [.tm 9]⟩, []⟩,
  ⟨⟨(some 74), none, .mov, [.tm 1]⟩, []⟩,
  ⟨⟨(some 75), none, .mov, [.tm 1]⟩, []⟩,
  ⟨⟨(some 76), none, .len, [.tm 75]⟩, []⟩,
  ⟨⟨(some 77), none, (.ari .sub), [.tm 76, .cn (.int .i64 1)]⟩, []⟩,
  ⟨⟨(some 78), none, (.slice 4 false true), [.tm 74, .tm 77]⟩, []⟩,
  ⟨⟨(some 79), none, (.call 17), [.tm 73, .tm 78, .cn (.int .i64 0)]⟩, []⟩,
  ⟨⟨(some 72), none, .mov, [.tm 79]⟩, []⟩,
  ⟨⟨(some 80), none, (.ext 0), [.tm 72]⟩, []⟩,
  ⟨⟨(some 81), none, (.ext 1), [.tm 72]⟩, []⟩,
  ⟨⟨(some 10), none, .mov, [.tm 80]⟩, []⟩,
  ⟨⟨(some 11), none, .mov, [.tm 81]⟩, []⟩])
 (.seq (.seq (.region [⟨(some 82), none, .mov, [.tm 11]⟩,
  ⟨(some 83), none, (.cmp .neq), [.tm 82, .cn (.int .i64 0)]⟩,
  ⟨(some 84), none, .mov, [.tm 83]⟩,
  ⟨(some 85), (some (84, false)), .mov, [.tm 7]⟩,
  ⟨(some 86), (some (84, false)), .mov, [.tm 10]⟩,
  ⟨(some 87), (some (84, false)), (.call 18), [.tm 85, .tm 86]⟩,
  ⟨(some 88), (some (84, false)), .not, [.tm 87]⟩,
  ⟨(some 89), none, .or, [.tm 84, .tm 88]⟩])
 (.cond (.tm 89) (.seq (.region [⟨(some 6), none, .mov, [.cn (.bool false)]⟩])
 .ret)
  .skip))
 (.seq (.region [⟨(some 12), none, .mov, [.cn .nil]⟩])
 (.seq (.seq (.region [⟨(some 13), none, .mov, [.cn (.int .i64 0)]⟩])
 (.block 0 (.loop (.seq (.seq (.region [⟨(some 90), none, .mov, [.tm 13]⟩,
  ⟨(some 91), none, .mov, [.tm 1]⟩,
  ⟨(some 92), none, .len, [.tm 91]⟩,
  ⟨(some 93), none, (.cmp .lss), [.tm 90, .tm 92]⟩])
 (.cond (.tm 93) .skip
  (.exit 0)))
 (.seq (.block 1 (.draw [] [⟨⟨(some 96), none, .mov, [.tm 12]⟩, []⟩,
  ⟨⟨(some 97), none, .mov, [.tm 1]⟩, []⟩,
  ⟨⟨(some 98), none, .mov, [.tm 13]⟩, []⟩,
  ⟨⟨(some 99), none, (.idxAddr 4), [.tm 97, .tm 98]⟩, []⟩,
  ⟨⟨(some 100), none, (.fieldAddr 2), [.tm 99]⟩, []⟩,
  ⟨⟨(some 101), none, (.load false 1), [.tm 100]⟩, []⟩,
  ⟨⟨(some 102), none, .mov, [.tm 1]⟩, []⟩,
  ⟨⟨(some 103), none, .mov, [.tm 13]⟩, []⟩,
  ⟨⟨(some 104), none, (.idxAddr 4), [.tm 102, .tm 103]⟩, []⟩,
  ⟨⟨(some 105), none, (.fieldAddr 3), [.tm 104]⟩, []⟩,
  ⟨⟨(some 106), none, (.load false 1), [.tm 105]⟩, []⟩,
  ⟨⟨(some 107), none, (.build [(.int .i64 0), (.int .i64 0)] [(0, 1), (1, 1)]), [.tm 101, .tm 106]⟩, []⟩,
  ⟨⟨(some 108), none, (.buildSlice 2 1 [(.int .i64 0), (.int .i64 0)] [(0, 2)]), [.tm 107]⟩, []⟩,
  ⟨⟨(some 109), none, (.append 2 16 [(.int .i64 0), (.int .i64 0)]), [.tm 96, .tm 108]⟩, []⟩,
  ⟨⟨(some 12), none, .mov, [.tm 109]⟩, []⟩]))
 (.region [⟨(some 94), none, .mov, [.tm 13]⟩,
  ⟨(some 95), none, (.ari .add), [.tm 94, .cn (.int .i64 1)]⟩,
  ⟨(some 13), none, .mov, [.tm 95]⟩]))))))
 (.seq (.region [⟨(some 111), none, (.load true 6), [.tm 3]⟩,
  ⟨(some 112), none, .mov, [.tm 12]⟩,
  ⟨(some 113), none, (.call 11), [.tm 111, .tm 112]⟩,
  ⟨(some 110), none, .mov, [.tm 113]⟩,
  ⟨(some 114), none, (.ext 0), [.tm 110]⟩,
  ⟨(some 115), none, (.ext 1), [.tm 110]⟩,
  ⟨(some 14), none, .mov, [.tm 114]⟩,
  ⟨(some 15), none, .mov, [.tm 115]⟩])
 (.seq (.draw [] [⟨⟨(some 117), none, (.load true 6), [.tm 9]⟩, []⟩,
  ⟨⟨(some 118), none, .mov, [.tm 12]⟩, []⟩,
  ⟨⟨(some 119), none, .mov, [.tm 12]⟩, []⟩,
  ⟨⟨(some 120), none, .len, [.tm 119]⟩, []⟩,
  ⟨⟨(some 121), none, (.ari .sub), [.tm 120, .cn (.int .i64 1)]⟩, []⟩,
  ⟨⟨(some 122), none, (.slice 2 false true), [.tm 118, .tm 121]⟩, []⟩,
  ⟨⟨(some 123), none, (.call 11), [.tm 117, .tm 122]⟩, []⟩,
  ⟨⟨(some 116), none, .mov, [.tm 123]⟩, []⟩,
  ⟨⟨(some 124), none, (.ext 0), [.tm 116]⟩, []⟩,
  ⟨⟨(some 125), none, (.ext 1), [.tm 116]⟩, []⟩,
  ⟨⟨(some 16), none, .mov, [.tm 124]⟩, []⟩,
  ⟨⟨(some 17), none, .mov, [.tm 125]⟩, []⟩])
 (.seq (.seq (.region [⟨(some 126), none, .mov, [.tm 15]⟩,
  ⟨(some 127), none, (.cmp .neq), [.tm 126, .cn (.int .i64 0)]⟩])
 (.cond (.tm 127) (.seq (.region [⟨(some 128), none, (.call 10), []⟩,
  ⟨(some 6), none, .mov, [.tm 128]⟩])
 .ret)
  .skip))
 (.seq (.region [⟨(some 129), none, .mov, [.tm 17]⟩,
  ⟨(some 130), none, (.cmp .eql), [.tm 129, .cn (.int .i64 0)]⟩,
  ⟨(some 131), none, .mov, [.tm 130]⟩,
  ⟨(some 132), (some (131, true)), .mov, [.tm 16]⟩,
  ⟨(some 133), (some (131, true)), (.call 19), [.tm 132]⟩,
  ⟨(some 134), (some (131, true)), .mov, [.tm 14]⟩,
  ⟨(some 135), (some (131, true)), (.call 19), [.tm 134]⟩,
  ⟨(some 136), (some (131, true)), (.cmp .leq), [.tm 133, .tm 135]⟩,
  ⟨(some 137), none, .and, [.tm 131, .tm 136]⟩,
  ⟨(some 138), none, .mov, [.tm 137]⟩,
  ⟨(some 139), (some (138, true)), (.call 10), []⟩,
  ⟨(some 140), none, .and, [.tm 138, .tm 139]⟩,
  ⟨(some 6), none, .mov, [.tm 140]⟩])
 .ret)))))))))))))))) }
theorem v5_is : vfunc Try.prog Try.f5 = some v5 := by kernel_rfl


def wthF (a b : List Nat) : Bool := a.all fun x => (List.range b.length).any fun k => decide (x = b.getD k default)
def wthC : Ctr := { alias := false, of := fun l => match l with
  | [.vs _ _ n sz get, .vs _ _ n' sz' get'] => .ex (List Nat) fun a => .ex (List Nat) fun b => .pre (lsP 1 encI n sz get a ∧ lsP 1 encI n' sz' get' b ∧ a.length ≤ 1000000 ∧ b.length ≤ 1000000) (.fin (.bool (wthF a b)) [])
  | _ => noC }
def depC : Ctr := { alias := false, of := fun l => match l with
  | [.vs _ _ n sz get] => .ex (List Std) fun a => .pre (lsP 4 encS n sz get a ∧ a.length ≤ 1000000 ∧ ∀ p ∈ a, -1000000000000 ≤ p.y + p.r ∧ p.y + p.r ≤ 1000000000000) (.fin (.int .i64 (deepL 0 a)) [])
  | _ => noC }
def V0 : Env := { ct := fun _ => none, fn := fun _ => none, meth := fun _ _ => none }
theorem V0_ok : EnvOk Try.prog V0 := by
  refine ⟨fun f c h => ?_, fun f vf h => ?_, (fun _ _ _ h => by cases h), by kernel_rfl⟩
  · cases h
  · cases h

theorem wth_ok : wthC.ok Try.prog 18 := by
  refine contract Try.func18 v18_is V0_ok 200 wthC fun args k h => ?_
  simp only [wthC] at h
  split at h
  · rename_i t z n sz get t' z' n' sz' get'
    obtain ⟨a, b, ⟨⟨rfl, rfl, hg⟩, ⟨rfl, rfl, hg'⟩, hal, hbl⟩, h⟩ := h
    refine ⟨[.vs t z a.length 1 (fun k => encI (a.getD k default)), .vs t' z' b.length 1 (fun k => encI (b.getD k default))], ⟨by simpa [le] using hg, by simpa [le] using hg', trivial⟩, ?_⟩
    have h : k (.bool (wthF a b)) [] := h
    dsimp only [v18, encI, go_sem, Option.bind, Option.map, List.append_nil, Nat.beq, List.cons_append, List.nil_append, List.append_eq, List.map_cons, List.map_nil, ite_self, reduceIte]
    simp only [true_and, and_true, imp_self, implies_true, decide_eq_true_eq, decide_eq_false_iff_not, Nat.reduceAdd, Nat.reduceLeDiff, Bool.not_not, reduceCtorEq, false_imp_iff, Bool.not_eq_true', Bool.not_eq_false', Bool.false_eq_true, and_self, forall_const, ne_eq, not_false_eq_true, Nat.reduceEqDiff]
    refine Loop.keep [0, 0] Nat (fun i => [(5, .int .i64 i)]) (fun _ => []) [] (fun i => i ≤ a.length ∧ ∀ j, j < i → ((List.range b.length).any fun k => decide (a.getD j default = b.getD k default)) = true) (fun i => a.length - i) ?_ ?_
    · refine ⟨0, ⟨Nat.zero_le _, fun j h => by omega⟩, ?_⟩
      dsimp only [go_sem, Option.bind, Option.map, List.append_nil, Nat.beq, List.cons_append, List.nil_append, List.append_eq, List.map_cons, List.map_nil, ite_self, reduceIte]
      simp only [leS_mk, leL_cons, leL_nil, le_junk, le_int, le_bool, le_nil, leLL_nil, leLL_cons, leH_cons, leH_nil, leH1_box, leH1_own, leH1_gone, le_vs, le_agg, le_tup, le_ptr, le_own, le_xp, le_fn, le_opt, le_val, le_elem, le_nil_own, le_nil_vs, leH_ghost, leL_chunk, leXL_id, bnd_int, bnd_bool, bnd_val, bnd_nil, bnd_junk, bnd_vs, bnd_xp, bnd_agg, bnd_tup, bnd_ptr, bnd_own, bnd_elem, bnd_fn, bnd_iface, bnd_opt, bndL_nil, bndL_cons, lenH_cons, lenH_nil, imp_self, implies_true, true_and, and_true]
      simp
    · rintro i ⟨hi, ha⟩
      dsimp only [Int.toNat_natCast, go_sem, Option.bind, Option.map, List.append_nil, Nat.beq, List.cons_append, List.nil_append, List.append_eq, List.map_cons, List.map_nil, ite_self, reduceIte]
      simp only [true_and, and_true, imp_self, implies_true, decide_eq_true_eq, decide_eq_false_iff_not, Nat.reduceAdd, Nat.reduceLeDiff, Bool.not_not, reduceCtorEq, false_imp_iff, Bool.not_eq_true', Bool.not_eq_false', Bool.false_eq_true, and_self, forall_const, ne_eq, not_false_eq_true, Nat.reduceEqDiff]
      refine ⟨fun hlt => ?_, fun hge => ?_⟩
      · refine Loop.keep [0, 0, 3] Nat (fun n => [(6, .bool ((List.range n).any fun k => decide (a.getD i default = b.getD k default))), (7, .int .i64 n)]) (fun _ => []) [] (fun n => n ≤ b.length) (fun n => b.length - n) ?_ ?_
        · refine ⟨0, Nat.zero_le _, ?_⟩
          dsimp only [go_sem, Option.bind, Option.map, List.append_nil, Nat.beq, List.cons_append, List.nil_append, List.append_eq, List.map_cons, List.map_nil, ite_self, reduceIte]
          simp only [leS_mk, leL_cons, leL_nil, le_junk, le_int, le_bool, le_nil, leLL_nil, leLL_cons, leH_cons, leH_nil, leH1_box, leH1_own, leH1_gone, le_vs, le_agg, le_tup, le_ptr, le_own, le_xp, le_fn, le_opt, le_val, le_elem, le_nil_own, le_nil_vs, leH_ghost, leL_chunk, leXL_id, bnd_int, bnd_bool, bnd_val, bnd_nil, bnd_junk, bnd_vs, bnd_xp, bnd_agg, bnd_tup, bnd_ptr, bnd_own, bnd_elem, bnd_fn, bnd_iface, bnd_opt, bndL_nil, bndL_cons, lenH_cons, lenH_nil, imp_self, implies_true, true_and, and_true]
          simp
        · rintro n hn
          dsimp only [encI, Int.toNat_natCast, go_sem, Option.bind, Option.map, List.append_nil, Nat.beq, List.cons_append, List.nil_append, List.append_eq, List.map_cons, List.map_nil, ite_self, reduceIte]
          simp only [true_and, and_true, imp_self, implies_true, decide_eq_true_eq, decide_eq_false_iff_not, Nat.reduceAdd, Nat.reduceLeDiff, Bool.not_not, reduceCtorEq, false_imp_iff, Bool.not_eq_true', Bool.not_eq_false', Bool.false_eq_true, and_self, forall_const, ne_eq, not_false_eq_true, Nat.reduceEqDiff]
          refine ⟨fun hln => ?_, fun hgn => ?_⟩
          · refine ⟨fun _ => ⟨by omega, hlt⟩, fun _ => ⟨by omega, hln⟩, n + 1, by omega, by omega, ?_⟩
            rw [any_range]
            simp only [w_succ (i := n) (n := b.length) (by omega) (by omega), Int.natCast_inj, leS_mk, leL_cons, leL_nil, le_junk, le_int, le_bool, le_nil, leLL_nil, leLL_cons, leH_cons, leH_nil, leH1_box, leH1_own, leH1_gone, le_vs, le_agg, le_tup, le_ptr, le_own, le_xp, le_fn, le_opt, le_val, le_elem, le_nil_own, le_nil_vs, leH_ghost, leL_chunk, leXL_id, bnd_int, bnd_bool, bnd_val, bnd_nil, bnd_junk, bnd_vs, bnd_xp, bnd_agg, bnd_tup, bnd_ptr, bnd_own, bnd_elem, bnd_fn, bnd_iface, bnd_opt, bndL_nil, bndL_cons, lenH_cons, lenH_nil, imp_self, implies_true, true_and, and_true] <;> simp
          · obtain rfl : n = b.length := by omega
            refine ⟨fun hf => ?_, fun ht => ⟨i + 1, ⟨by omega, fun j hj => ?_⟩, by omega, ?_⟩⟩
            · have e : wthF a b = false := by
                rw [wthF, List.all_eq_false]
                exact ⟨_, getD_mem (show i < a.length by omega), by rw [hf]; simp⟩
              rw [e] at h
              exact ans_bool h
            · rcases Nat.lt_or_ge j i with h' | h'
              · exact ha j h'
              · obtain rfl : j = i := by omega
                exact ht
            · simp only [w_succ (i := i) (n := a.length) (by omega) (by omega), leS_mk, leL_cons, leL_nil, le_junk, le_int, le_bool, le_nil, leLL_nil, leLL_cons, leH_cons, leH_nil, leH1_box, leH1_own, leH1_gone, le_vs, le_agg, le_tup, le_ptr, le_own, le_xp, le_fn, le_opt, le_val, le_elem, le_nil_own, le_nil_vs, leH_ghost, leL_chunk, leXL_id, bnd_int, bnd_bool, bnd_val, bnd_nil, bnd_junk, bnd_vs, bnd_xp, bnd_agg, bnd_tup, bnd_ptr, bnd_own, bnd_elem, bnd_fn, bnd_iface, bnd_opt, bndL_nil, bndL_cons, lenH_cons, lenH_nil, imp_self, implies_true, true_and, and_true] <;> simp
      · have e : wthF a b = true := List.all_eq_true.2 fun x hx => by
          obtain ⟨j, hj, rfl⟩ := mem_getD hx
          exact ha j (by omega)
        rw [e] at h
        exact ans_bool h
  · exact h.1.elim
theorem dep_ok : depC.ok Try.prog 19 := by
  refine contract Try.func19 v19_is V0_ok 200 depC fun args k h => ?_
  simp only [depC] at h
  split at h
  · rename_i t z n sz get
    obtain ⟨a, ⟨⟨rfl, rfl, hg⟩, hal, hr⟩, h⟩ := h
    refine ⟨[.vs t z a.length 4 (fun k => encS (a.getD k default))], ⟨by simpa [le] using hg, trivial⟩, ?_⟩
    have h : k (.int .i64 (deepL 0 a)) [] := h
    dsimp only [v19, encS, go_sem, Option.bind, Option.map, List.append_nil, Nat.beq, List.cons_append, List.nil_append, List.append_eq, List.map_cons, List.map_nil, ite_self, reduceIte]
    simp only [true_and, and_true, imp_self, implies_true, decide_eq_true_eq, decide_eq_false_iff_not, Nat.reduceAdd, Nat.reduceLeDiff, Bool.not_not, reduceCtorEq, false_imp_iff, Bool.not_eq_true', Bool.not_eq_false', Bool.false_eq_true, and_self, forall_const, ne_eq, not_false_eq_true, Nat.reduceEqDiff]
    refine Loop.keep [0] Nat (fun i => [(3, .int .i64 (deepL 0 (a.take i))), (4, .int .i64 i)]) (fun _ => []) [] (fun i => i ≤ a.length) (fun i => a.length - i) ?_ ?_
    · refine ⟨0, Nat.zero_le _, ?_⟩
      dsimp only [go_sem, Option.bind, Option.map, List.append_nil, Nat.beq, List.cons_append, List.nil_append, List.append_eq, List.map_cons, List.map_nil, ite_self, reduceIte]
      simp only [leS_mk, leL_cons, leL_nil, le_junk, le_int, le_bool, le_nil, leLL_nil, leLL_cons, leH_cons, leH_nil, leH1_box, leH1_own, leH1_gone, le_vs, le_agg, le_tup, le_ptr, le_own, le_xp, le_fn, le_opt, le_val, le_elem, le_nil_own, le_nil_vs, leH_ghost, leL_chunk, leXL_id, bnd_int, bnd_bool, bnd_val, bnd_nil, bnd_junk, bnd_vs, bnd_xp, bnd_agg, bnd_tup, bnd_ptr, bnd_own, bnd_elem, bnd_fn, bnd_iface, bnd_opt, bndL_nil, bndL_cons, lenH_cons, lenH_nil, imp_self, implies_true, true_and, and_true]
      simp [deepL]
    · rintro i hi
      dsimp only [Int.toNat_natCast, go_sem, Option.bind, Option.map, List.append_nil, Nat.beq, List.cons_append, List.nil_append, List.append_eq, List.map_cons, List.map_nil, ite_self, reduceIte]
      simp only [true_and, and_true, imp_self, implies_true, decide_eq_true_eq, decide_eq_false_iff_not, Nat.reduceAdd, Nat.reduceLeDiff, Bool.not_not, reduceCtorEq, false_imp_iff, Bool.not_eq_true', Bool.not_eq_false', Bool.false_eq_true, and_self, forall_const, ne_eq, not_false_eq_true, Nat.reduceEqDiff]
      refine ⟨fun hlt => ?_, fun hge => ?_⟩
      · obtain ⟨r1, r2⟩ := hr _ (getD_mem (show i < a.length by omega))
        have e : deepL 0 (a.take (i + 1)) = max (deepL 0 (a.take i)) ((a.getD i default).y + (a.getD i default).r) := by
          rw [List.take_add_one, deepL_app, List.getElem?_eq_getElem (by omega), List.getD_eq_getElem?_getD, List.getElem?_eq_getElem (by omega)]
          rfl
        refine ⟨⟨by omega, hlt⟩, ⟨by omega, hlt⟩, i + 1, by omega, by omega, ?_⟩
        rw [e, mid_w (x := (a.getD i default).y + (a.getD i default).r) (by omega)]
        simp only [w_succ (i := i) (n := a.length) (by omega) (by omega), leS_mk, leL_cons, leL_nil, le_junk, le_int, le_bool, le_nil, leLL_nil, leLL_cons, leH_cons, leH_nil, leH1_box, leH1_own, leH1_gone, le_vs, le_agg, le_tup, le_ptr, le_own, le_xp, le_fn, le_opt, le_val, le_elem, le_nil_own, le_nil_vs, leH_ghost, leL_chunk, leXL_id, bnd_int, bnd_bool, bnd_val, bnd_nil, bnd_junk, bnd_vs, bnd_xp, bnd_agg, bnd_tup, bnd_ptr, bnd_own, bnd_elem, bnd_fn, bnd_iface, bnd_opt, bndL_nil, bndL_cons, lenH_cons, lenH_nil, imp_self, implies_true, true_and, and_true] <;> simp
      · obtain rfl : i = a.length := by omega
        rw [List.take_of_length_le (Nat.le_refl _)]
        exact ans_int h
  · exact h.1.elim
def L4 : Env := { ct := fun n => match n with | 10 => some trueC | 17 => some reaC | 11 => some rowC | 18 => some wthC | 19 => some depC | _ => none, fn := fun _ => none, meth := fun _ _ => none }
theorem L4_ct10 : L4.ct 10 = some trueC := rfl
theorem L4_ct17 : L4.ct 17 = some reaC := rfl
theorem L4_ct11 : L4.ct 11 = some rowC := rfl
theorem L4_ct18 : L4.ct 18 = some wthC := rfl
theorem L4_ct19 : L4.ct 19 = some depC := rfl
theorem L4_ok : EnvOk Try.prog L4 := by
  refine ⟨fun f c h => ?_, fun f vf h => ?_, (fun _ _ _ h => by cases h), by kernel_rfl⟩
  · simp only [L4] at h
    split at h
    · cases h; exact ⟨awake_ok, Try.f10, Try.func10, by kernel_rfl, by kernel_rfl⟩
    · cases h; exact ⟨rea_ok, Try.f17, Try.func17, by kernel_rfl, by kernel_rfl⟩
    · cases h; exact ⟨row_ok, Try.f11, Try.func11, by kernel_rfl, by kernel_rfl⟩
    · cases h; exact ⟨wth_ok, Try.f18, Try.func18, by kernel_rfl, by kernel_rfl⟩
    · cases h; exact ⟨dep_ok, Try.f19, Try.func19, by kernel_rfl, by kernel_rfl⟩
    · cases h
  · cases h

def lawG : List PSh := [⟨true, shB⟩, ⟨false, [.slice shS]⟩, ⟨true, [.int .u16, .int .u16, .int .u16]⟩]
theorem lawGrows : (lawC lawG).ok Try.prog 5 := by
  refine contract Try.func5 v5_is L4_ok 400 (lawC lawG) fun args k h => ?_
  obtain ⟨ha, hk⟩ := h
  obtain ⟨_, _, rfl, h1, e1⟩ := okPL_cons_inv ha
  obtain ⟨cs, rfl, hcs⟩ := okP_agg_inv h1
  obtain ⟨v, _, rfl, h2, e2⟩ := okPL_cons_inv e1
  obtain ⟨_, _, rfl, h3, e3⟩ := okPL_cons_inv e2
  obtain ⟨ds, rfl, hds⟩ := okP_agg_inv h3
  cases okPL_nil_inv e3
  obtain ⟨_, _, rfl, ⟨m0, rfl, w0⟩, f1⟩ := okSL_cons_inv hds
  obtain ⟨_, _, rfl, ⟨m1, rfl, w1⟩, f2⟩ := okSL_cons_inv f1
  obtain ⟨_, _, rfl, ⟨m2, rfl, w2⟩, f3⟩ := okSL_cons_inv f2
  cases okSL_nil_inv f3
  obtain ⟨z, b, hbl, hbe⟩ := b_of hcs
  obtain ⟨z', l, hll, hle⟩ := list_of (fun _ => s_of) (okP_one_inv h2)
  rw [maxLen_eq] at hbl hll
  simp only [Lit.wf, Bool.and_eq_true, decide_eq_true_eq] at w0 w1 w2
  have w0 : 0 ≤ m0 ∧ m0 ≤ 65535 := w0
  have w1 : 0 ≤ m1 ∧ m1 ≤ 65535 := w1
  have w2 : 0 ≤ m2 ∧ m2 ≤ 65535 := w2
  refine ⟨[.agg (encB false z b), .vs false z' l.length 4 (fun k => encS (l.getD k default)), .agg [.int .u16 m0, .int .u16 m1, .int .u16 m2]], ⟨leXL_le _ _ hbe (by simp [encB, bndL, bnd]), leX_le _ _ hle trivial, leXL_le _ _ (leXL_self _) (by simp [bndL, bnd]), trivial⟩, ?_⟩
  dsimp only [v5, L4_ct10, L4_ct17, L4_ct18, trueC, reaC, wthC, lsR, encB, encT, encS, encI, go_sem, Option.bind, Option.map, List.append_nil, Nat.beq, List.cons_append, List.nil_append, List.append_eq, List.map_cons, List.map_nil, ite_self, reduceIte]
  simp only [true_and, and_true, imp_self, implies_true, decide_eq_true_eq, decide_eq_false_iff_not, Nat.reduceAdd, Nat.reduceLeDiff, Bool.not_not, reduceCtorEq, false_imp_iff, Bool.not_eq_true', Bool.not_eq_false', Bool.false_eq_true, and_self, forall_const, ne_eq, not_false_eq_true, Nat.reduceEqDiff]
  have hk' : k (.bool true) [] := hk
  refine ⟨fun _ => ans_bool hk', fun hf => ?_⟩
  have hf : 2 ≤ l.length ∧ l.length ≤ 40 ∧ b.wk.length ≤ 20 := by
    simp only [Bool.or_eq_false_iff, decide_eq_false_iff_not] at hf
    omega
  obtain ⟨hl2, hl40, hw20⟩ := hf
  refine ⟨b, l, ⟨brdP_self b, lsP_self, by omega⟩, by decide, by decide, fun hc => ?_, fun hc => ?_⟩
  · have e : (reachR b l 0).1 = [] := by
      unfold reachR at hc ⊢
      split
      · rfl
      · rename_i hh
        rw [if_neg hh] at hc
        rw [if_neg (by omega)] at hc
        exact absurd rfl hc
    rw [e]
    exact ans_bool hk'
  · have hchk : chkF b l = 0 := by
      unfold reachR at hc
      split at hc
      · rename_i hh; exact absurd hc hh
      · rename_i hh; omega
    obtain ⟨hb, hl, hlen⟩ := chkF_ok hchk
    obtain ⟨gb, g1, g2, g3, g4⟩ := growB_ok (m0 := m0) (m1 := m1) (m2 := m2) hb w0.1 w1.1 w2.1
    have hb' := hb
    obtain ⟨⟨_, _⟩, ⟨_, _⟩, ⟨_, _⟩, ⟨_, _⟩, ⟨_, _⟩, h8, _⟩ := hb'
    have htl : (l.take (l.length - 1)).length = l.length - 1 := by rw [List.length_take]; omega
    have hl' : ∀ p ∈ l.take (l.length - 1), okP p := fun p hp => hl p (List.mem_of_mem_take hp)
    have hchk' := chk_intro gb hl' (by omega)
    have hget : ∀ k, k < l.length - 1 → (l.take (l.length - 1)).getD k default = l.getD k default := fun k hk => by
      rw [List.getD_eq_getElem?_getD, List.getElem?_take, if_pos hk, ← List.getD_eq_getElem?_getD]
    have r1 : reachR b l 0 = (reachL b l (l.getD 0 default), 0) := by
      rw [reachR, if_neg (by omega), if_neg (by omega)]; rfl
    have r2 : reachR (growB b m0 m1 m2) (l.take (l.length - 1)) 0 = (reachL (growB b m0 m1 m2) (l.take (l.length - 1)) (l.getD 0 default), 0) := by
      rw [reachR, if_neg (by omega), if_neg (by omega)]
      show (reachL _ _ ((l.take (l.length - 1)).getD 0 default), _) = _
      rw [hget 0 (by omega)]
    have ew : IntKind.i64.wrap ((l.length : Int) - 1) = ((l.length - 1 : Nat) : Int) := by rw [mid_w (by omega)]; omega
    rw [ew]
    simp only [Int.toNat_natCast]
    rw [mid_w (x := m0) (by omega), mid_w (x := m1) (by omega), mid_w (x := m2) (by omega), mid_w (x := b.w + m2) (by omega), mid_w (x := b.a + m0) (by omega), mid_w (x := b.s - m1) (by omega)]
    refine ⟨by omega, by omega, by omega, by omega, growB b m0 m1 m2, l.take (l.length - 1), ⟨⟨⟨rfl, rfl, rfl, rfl, rfl⟩, rfl, rfl, fun k _ => leXL_self _⟩, ⟨rfl, htl.symm, fun k hk => by rw [hget k hk]; exact leXL_self _⟩, by omega⟩, by decide, by decide, ?_⟩
    rw [r1, r2]
    have n1 : (reachL b l (l.getD 0 default)).length ≤ 1000000 := Nat.le_trans (part_le (fun k => reachF b l (b.wk.getD k default) (l.getD 0 default)) b.wk.length) (by omega)
    have n2 : (reachL (growB b m0 m1 m2) (l.take (l.length - 1)) (l.getD 0 default)).length ≤ 1000000 := Nat.le_trans (part_le (fun k => reachF (growB b m0 m1 m2) (l.take (l.length - 1)) ((growB b m0 m1 m2).wk.getD k default) (l.getD 0 default)) (growB b m0 m1 m2).wk.length) (by show b.wk.length ≤ _; omega)
    refine ⟨_, _, fun _ => ⟨⟨rfl, rfl, fun k _ => leXL_self _⟩, ⟨rfl, rfl, fun k _ => leXL_self _⟩, n1, n2⟩, ?_⟩
    have hwth : wthF (reachL b l (l.getD 0 default)) (reachL (growB b m0 m1 m2) (l.take (l.length - 1)) (l.getD 0 default)) = true := List.all_eq_true.2 fun x hx => by
      have hx2 := grow_reach (m0 := m0) (m1 := m1) (m2 := m2) hb hl w0.1 w1.1 w2.1 (getD_mem (show 0 < l.length by omega)) x hx
      obtain ⟨j, hj, rfl⟩ := mem_getD hx2
      exact List.any_eq_true.2 ⟨j, List.mem_range.2 hj, decide_eq_true rfl⟩
    rw [hwth]
    refine ⟨fun hh => absurd hh (by simp), fun _ => ?_⟩
    obtain ⟨ft, hft⟩ : ∃ ft : List Ft, ft = l.map (fun p => (p.r, p.h)) := ⟨_, rfl⟩
    have hftl : ft.length = l.length := by rw [hft, List.length_map]
    have hftg : ∀ k, k < l.length → ft.getD k default = ((l.getD k default).r, (l.getD k default).h) := fun k hk => by
      rw [hft, List.getD_eq_getElem?_getD, List.getElem?_map, List.getD_eq_getElem?_getD, List.getElem?_eq_getElem hk]; rfl
    refine Loop.keep [1, 1, 5] Nat (fun j => [(12, .own 3 0 j 2), (13, .int .i64 j)]) (fun j => [(3, .own (decide (j = 0)) 2 j (fun k => encT (ft.getD k default)))]) [.gone] (fun j => j ≤ l.length) (fun j => l.length - j) ?_ ?_
    · refine ⟨0, Nat.zero_le _, ?_⟩
      dsimp only [go_sem, Option.bind, Option.map, List.append_nil, Nat.beq, List.cons_append, List.nil_append, List.append_eq, List.map_cons, List.map_nil, ite_self, reduceIte]
      simp only [leS_mk, leL_cons, leL_nil, le_junk, le_int, le_bool, le_nil, leLL_nil, leLL_cons, leH_cons, leH_nil, leH1_box, leH1_own, leH1_gone, le_vs, le_agg, le_tup, le_ptr, le_own, le_xp, le_fn, le_opt, le_val, le_elem, le_nil_own, le_nil_vs, leH_ghost, leL_chunk, leXL_id, bnd_int, bnd_bool, bnd_val, bnd_nil, bnd_junk, bnd_vs, bnd_xp, bnd_agg, bnd_tup, bnd_ptr, bnd_own, bnd_elem, bnd_fn, bnd_iface, bnd_opt, bndL_nil, bndL_cons, lenH_cons, lenH_nil, imp_self, implies_true, true_and, and_true]
      simp
    · rintro j hj
      dsimp only [L4_ct10, L4_ct11, L4_ct19, trueC, rowC, depC, lsS, encB, encT, encS, encI, Int.toNat_natCast, go_sem, Option.bind, Option.map, List.append_nil, Nat.beq, List.cons_append, List.nil_append, List.append_eq, List.map_cons, List.map_nil, ite_self, reduceIte]
      simp only [true_and, and_true, imp_self, implies_true, decide_eq_true_eq, decide_eq_false_iff_not, Nat.reduceAdd, Nat.reduceLeDiff, Bool.not_not, reduceCtorEq, false_imp_iff, Bool.not_eq_true', Bool.not_eq_false', Bool.false_eq_true, and_self, forall_const, ne_eq, not_false_eq_true, Nat.reduceEqDiff]
      refine ⟨fun hlt => ?_, fun hge => ?_⟩
      · refine ⟨⟨by omega, hlt⟩, ⟨by omega, hlt⟩, by decide, ⟨by unfold capOk; omega, fun q hq => match q, hq with | 0, _ => ⟨rfl, trivial, trivial, trivial⟩⟩, j + 1, by omega, by omega, ?_⟩
        simp only [w_succ (i := j) (n := l.length) (by omega) (by omega), leS_mk, leL_cons, leL_nil, le_junk, le_int, le_bool, le_nil, leLL_nil, leLL_cons, leH_cons, leH_nil, leH1_box, leH1_own, leH1_gone, le_vs, le_agg, le_tup, le_ptr, le_own, le_xp, le_fn, le_opt, le_val, le_elem, le_nil_own, le_nil_vs, leH_ghost, leL_chunk, leXL_id, bnd_int, bnd_bool, bnd_val, bnd_nil, bnd_junk, bnd_vs, bnd_xp, bnd_agg, bnd_tup, bnd_ptr, bnd_own, bnd_elem, bnd_fn, bnd_iface, bnd_opt, bndL_nil, bndL_cons, lenH_cons, lenH_nil, imp_self, implies_true, true_and, and_true]
        refine ⟨by simp, by simp, fun q hq => ?_⟩
        rcases Nat.lt_or_ge q j with h' | h'
        · rw [if_pos h']; exact leL_self [.int _ _, .int _ _] ⟨trivial, trivial, trivial⟩
        · obtain rfl : q = j := by omega
          rw [if_neg (by omega), Nat.sub_self, hftg q (by omega)]
          exact leL_self [.int _ _, .int _ _] ⟨trivial, trivial, trivial⟩
      · obtain rfl : j = l.length := by omega
        rw [ew]
        simp only [Int.toNat_natCast]
        have hfl : (ft.take (l.length - 1)).length = l.length - 1 := by rw [List.length_take]; omega
        have hfg : ∀ k, k < l.length - 1 → (ft.take (l.length - 1)).getD k default = ft.getD k default := fun k hk => by
          rw [List.getD_eq_getElem?_getD, List.getElem?_take, if_pos hk, ← List.getD_eq_getElem?_getD]
        refine ⟨b, ft, ⟨brdP_self b, ⟨rfl, hftl.symm, fun k _ => leXL_self _⟩, by omega⟩, by decide, by decide, by omega, growB b m0 m1 m2, ft.take (l.length - 1), ⟨⟨⟨rfl, rfl, rfl, rfl, rfl⟩, rfl, rfl, fun k _ => leXL_self _⟩, ⟨rfl, hfl.symm, fun k hk => by rw [hfg k hk]; exact leXL_self _⟩, by omega⟩, by decide, by decide, fun _ => ans_bool hk', fun hr => ?_⟩
        obtain ⟨t1, t2⟩ := rows_rng hr
        obtain ⟨u1, u2⟩ := grow_rows (m0 := m0) (m1 := m1) (m2 := m2) w0.1 w1.1 w2.1 (by omega) hr
        rw [hftl] at u1 u2
        obtain ⟨v1, v2⟩ := rows_rng u1
        refine ⟨_, fun _ => ⟨⟨rfl, rfl, fun k _ => leXL_self _⟩, by omega, v2⟩, _, fun _ => ⟨⟨rfl, rfl, fun k _ => leXL_self _⟩, by omega, t2⟩, ?_⟩
        rw [u1, decide_eq_true rfl, decide_eq_true u2]
        exact ans_bool hk'
end Go.Proofs.Ytojaibhjfeojjaa

/- Layouts in plain Lean: a division's depth as it is counted; rows out of a layout. -/
set_option linter.all false
namespace Go.Proofs.Ytojaibhjfeojjaa
open Go Go.Vx

def depF (b : Brd) : List Ft → List Int → Int → Bool → Int × Bool
  | l, [], dep, _ => (dep, decide (l.length = 0))
  | l, k :: ks, dep, fst => if k < 1 ∨ (l.length : Int) < k then (0, false) else if b.w < wideG b (-b.c) (l.take k.toNat) then (0, false) else
      depF b (l.drop k.toNat) ks ((if fst then dep else dep + b.c) + deepG 0 (l.take k.toNat)) false
def castL : List Nat → List Int
  | [] => []
  | n :: ks => (n : Int) :: castL ks
theorem depF_of {b : Brd} : ∀ (ks : List Int) (l : List Ft) (dep : Int) (fst : Bool), (depF b l ks dep fst).2 = true →
    ∃ ks' : List Nat, ks = castL ks' ∧ dvP b l ks' ∧ (depF b l ks dep fst).1 = dep + dvD b l ks' + (if fst then 0 else if 0 < ks'.length then b.c else 0)
  | [], l, dep, fst, h => by
    rw [depF] at h ⊢
    have h := of_decide_eq_true h
    refine ⟨[], rfl, List.eq_nil_of_length_eq_zero h, ?_⟩
    show dep = dep + 0 + _
    cases fst <;> simp
  | k :: ks, l, dep, fst, h => by
    rw [depF] at h ⊢
    split at h
    · cases h
    · rename_i h1
      rw [if_neg h1]
      split at h
      · cases h
      · rename_i h2
        rw [if_neg h2]
        obtain ⟨ks', rfl, e2, e3⟩ := depF_of ks _ _ _ h
        obtain ⟨n, rfl⟩ := Int.eq_ofNat_of_zero_le (show 0 ≤ k by omega)
        simp only [Int.toNat_natCast] at *
        refine ⟨n :: ks', rfl, ⟨by omega, by omega, by omega, e2⟩, ?_⟩
        rw [e3, dvD]
        simp only [Bool.false_eq_true, if_false, List.length_cons]
        cases fst
        · simp only [Bool.false_eq_true, if_false, Nat.zero_lt_succ, if_true]; omega
        · simp only [if_true]; omega
theorem depF_is {b : Brd} : ∀ (ks : List Nat) (l : List Ft) (dep : Int) (fst : Bool), dvP b l ks → depF b l (castL ks) dep fst = (dep + dvD b l ks + (if fst then 0 else if 0 < ks.length then b.c else 0), true)
  | [], l, dep, fst, h => by
    have h : l = [] := h
    subst h
    show depF b [] [] dep fst = _
    rw [depF]
    have : dvD b [] [] = 0 := rfl
    rw [this]
    cases fst <;> simp
  | k :: ks, l, dep, fst, h => by
    obtain ⟨h1, h2, h3, h4⟩ := h
    show depF b l ((k : Int) :: castL ks) dep fst = _
    rw [depF, if_neg (by omega), Int.toNat_natCast, if_neg (by omega), depF_is ks _ _ _ h4, dvD]
    simp only [Bool.false_eq_true, if_false, List.length_cons]
    congr 1
    cases fst
    · simp only [Bool.false_eq_true, if_false, Nat.zero_lt_succ, if_true]; omega
    · simp only [if_true]; omega

/-! ### Rows out of a layout -/

def incL : List Nat → List Nat
  | [] => []
  | [a] => [a + 1]
  | a :: c :: l => a :: incL (c :: l)
theorem incL_app (l : List Nat) (a : Nat) : incL (l ++ [a]) = l ++ [a + 1] := by
  induction l with
  | nil => rfl
  | cons c l ih =>
    cases l with
    | nil => rfl
    | cons d l => show c :: incL (d :: (l ++ [a])) = _; rw [← List.cons_append, ih]; rfl
def rowsH : Option Int → List Nat → List Std → List Nat
  | _, acc, [] => acc
  | prev, acc, p :: l => rowsH (some p.y) (incL (if prev = some p.y then acc else acc ++ [0])) l
theorem rowsH_in {b : Brd} {y : Int} {rest : List Std} : ∀ (l : List Ft) (x : Int) (acc : List Nat) (k : Nat), rowsH (some y) (acc ++ [k]) (rowF b y l x ++ rest) = rowsH (some y) (acc ++ [k + l.length]) rest
  | [], _, _, _ => rfl
  | f :: l, x, acc, k => by
    rw [rowF, List.cons_append, rowsH]
    show rowsH (some y) (incL (if some y = some y then acc ++ [k] else _)) _ = _
    rw [if_pos rfl, incL_app, rowsH_in l, List.length_cons]
    congr 3; omega
theorem rowsH_row {b : Brd} {y : Int} {rest : List Std} {prev : Option Int} {l : List Ft} {x : Int} {acc : List Nat} (h : 0 < l.length) (hp : prev ≠ some y) : rowsH prev acc (rowF b y l x ++ rest) = rowsH (some y) (acc ++ [l.length]) rest := by
  cases l with
  | nil => simp at h
  | cons f l =>
    rw [rowF, List.cons_append, rowsH]
    show rowsH (some y) (incL (if prev = some y then acc else acc ++ [0])) _ = _
    rw [if_neg hp, incL_app, rowsH_in l, List.length_cons]
    congr 3; omega
theorem rowsH_place {b : Brd} (hc : 0 ≤ b.c) : ∀ (ks : List Nat) (l : List Ft) (y : Int) (prev : Option Int) (acc : List Nat), (∀ f ∈ l, 1 ≤ f.1) → dvP b l ks → (∀ v, prev = some v → v ≤ y) → rowsH prev acc (placeL b ks l y) = acc ++ ks
  | [], _, _, _, acc, _, _, _ => by rw [List.append_nil]; rfl
  | k :: ks, l, y, prev, acc, hl, hd, hp => by
    obtain ⟨h1, hk, hw, hd⟩ := hd
    have htk : (l.take k).length = k := by rw [List.length_take]; omega
    have hm : 1 ≤ mostF (l.take k) := by
      have hx := most_le _ (getD_mem (l := l.take k) (i := 0) (by omega))
      have hy := hl _ (List.mem_of_mem_take (getD_mem (l := l.take k) (i := 0) (by omega)))
      omega
    rw [placeL, rowsH_row (by omega) (fun e => by have := hp _ e; omega), rowsH_place hc ks _ _ _ _ (fun f hf => hl f (List.mem_of_mem_drop hf)) hd ?_, htk, List.append_assoc]
    · rfl
    · intro v hv
      injection hv with hv
      omega
end Go.Proofs.Ytojaibhjfeojjaa

/- Layouts, walked: the reference's Depth. -/
set_option linter.all false
namespace Go.Proofs.Ytojaibhjfeojjaa
open Go Go.Vx
set_option maxRecDepth 100000
set_option maxHeartbeats 4000000

def v24 : VF := { ntmps := 93, res := [.tmp 6, .tmp 7], body :=
 (.seq (.region [⟨(some 3), none, .box, [.tm 0]⟩,
  ⟨(some 6), none, .mov, [.cn (.int .i64 0)]⟩,
  ⟨(some 7), none, .mov, [.cn (.bool false)]⟩])
 (.seq (.region [⟨(some 8), none, .mov, [.cn (.int .i64 0)]⟩,
  ⟨(some 9), none, .mov, [.cn (.int .i64 0)]⟩])
 (.seq (.seq (.region [⟨(some 10), none, .mov, [.cn (.int .i64 0)]⟩])
 (.block 0 (.loop (.seq (.seq (.region [⟨(some 14), none, .mov, [.tm 10]⟩,
  ⟨(some 15), none, .mov, [.tm 2]⟩,
  ⟨(some 16), none, .len, [.tm 15]⟩,
  ⟨(some 17), none, (.cmp .lss), [.tm 14, .tm 16]⟩])
 (.cond (.tm 17) .skip
  (.exit 0)))
 (.seq (.block 1 (.seq (.seq (.region [⟨(some 20), none, .mov, [.tm 2]⟩,
  ⟨(some 21), none, .mov, [.tm 10]⟩,
  ⟨(some 22), none, (.idxAddr 1), [.tm 20, .tm 21]⟩,
  ⟨(some 23), none, (.load false 1), [.tm 22]⟩,
  ⟨(some 24), none, (.cmp .lss), [.tm 23, .cn (.int .i64 1)]⟩,
  ⟨(some 25), none, .mov, [.tm 24]⟩,
  ⟨(some 26), (some (25, false)), .mov, [.tm 2]⟩,
  ⟨(some 27), (some (25, false)), .mov, [.tm 10]⟩,
  ⟨(some 28), (some (25, false)), (.idxAddr 1), [.tm 26, .tm 27]⟩,
  ⟨(some 29), (some (25, false)), (.load false 1), [.tm 28]⟩,
  ⟨(some 30), (some (25, false)), .mov, [.tm 1]⟩,
  ⟨(some 31), (some (25, false)), .len, [.tm 30]⟩,
  ⟨(some 32), (some (25, false)), .mov, [.tm 8]⟩,
  ⟨(some 33), (some (25, false)), (.ari .sub), [.tm 31, .tm 32]⟩,
  ⟨(some 34), (some (25, false)), (.cmp .gtr), [.tm 29, .tm 33]⟩,
  ⟨(some 35), none, .or, [.tm 25, .tm 34]⟩])
 (.cond (.tm 35) (.seq (.region [⟨(some 6), none, .mov, [.cn (.int .i64 0)]⟩,
  ⟨(some 7), none, .mov, [.cn (.bool false)]⟩])
 .ret)
  .skip))
 (.seq (.region [⟨(some 36), none, (.fieldAddr 2), [.tm 3]⟩,
  ⟨(some 37), none, (.load false 1), [.tm 36]⟩,
  ⟨(some 38), none, .neg, [.tm 37]⟩,
  ⟨(some 11), none, .mov, [.tm 38]⟩,
  ⟨(some 12), none, .mov, [.cn (.int .i64 0)]⟩])
 (.seq (.seq (.region [⟨(some 39), none, .mov, [.tm 8]⟩,
  ⟨(some 13), none, .mov, [.tm 39]⟩])
 (.block 2 (.loop (.seq (.seq (.region [⟨(some 40), none, .mov, [.tm 13]⟩,
  ⟨(some 41), none, .mov, [.tm 8]⟩,
  ⟨(some 42), none, .mov, [.tm 2]⟩,
  ⟨(some 43), none, .mov, [.tm 10]⟩,
  ⟨(some 44), none, (.idxAddr 1), [.tm 42, .tm 43]⟩,
  ⟨(some 45), none, (.load false 1), [.tm 44]⟩,
  ⟨(some 46), none, (.ari .add), [.tm 41, .tm 45]⟩,
  ⟨(some 47), none, (.cmp .lss), [.tm 40, .tm 46]⟩])
 (.cond (.tm 47) .skip
  (.exit 2)))
 (.seq (.block 3 (.seq (.draw [] [⟨⟨(some 50), none, .mov, [.tm 11]⟩, []⟩,
  ⟨⟨(some 51), none, (.fieldAddr 2), [.tm 3]⟩, []⟩,
  ⟨⟨(some 52), none, (.load false 1), [.tm 51]⟩, []⟩,
  ⟨⟨(some 53), none, (.ari .add), [.tm 50, .tm 52]⟩, []⟩,
  ⟨⟨(some 54), none, .mov, [.tm 1]⟩, []⟩,
  ⟨⟨(some 55), none, .mov, [.tm 13]⟩, []⟩,
  ⟨⟨(some 56), none, (.idxAddr 2), [.tm 54, .tm 55]⟩, []⟩,
  ⟨⟨(some 57), none, (.fieldAddr 0), [.tm 56]⟩, []⟩,
  ⟨⟨(some 58), none, (.load false 1), [.tm 57]⟩, []⟩,
  ⟨⟨(some 59), none, (.ari .mul), [.cn (.int .i64 2), .tm 58]⟩, []⟩,
  ⟨⟨(some 60), none, (.ari .add), [.tm 53, .tm 59]⟩, []⟩,
  ⟨⟨(some 11), none, .mov, [.tm 60]⟩, []⟩])
 (.region [⟨(some 61), none, .mov, [.tm 12]⟩,
  ⟨(some 62), none, .mov, [.tm 1]⟩,
  ⟨(some 63), none, .mov, [.tm 13]⟩,
  ⟨(some 64), none, (.idxAddr 2), [.tm 62, .tm 63]⟩,
  ⟨(some 65), none, (.fieldAddr 0), [.tm 64]⟩,
  ⟨(some 66), none, (.load false 1), [.tm 65]⟩,
  ⟨(some 67), none, (.ari .mul), [.cn (.int .i64 2), .tm 66]⟩,
  ⟨(some 68), none, .max, [.tm 61, .tm 67]⟩,
  ⟨(some 12), none, .mov, [.tm 68]⟩])))
 (.region [⟨(some 48), none, .mov, [.tm 13]⟩,
  ⟨(some 49), none, (.ari .add), [.tm 48, .cn (.int .i64 1)]⟩,
  ⟨(some 13), none, .mov, [.tm 49]⟩]))))))
 (.seq (.seq (.region [⟨(some 69), none, .mov, [.tm 11]⟩,
  ⟨(some 70), none, (.fieldAddr 0), [.tm 3]⟩,
  ⟨(some 71), none, (.load false 1), [.tm 70]⟩,
  ⟨(some 72), none, (.cmp .gtr), [.tm 69, .tm 71]⟩])
 (.cond (.tm 72) (.seq (.region [⟨(some 6), none, .mov, [.cn (.int .i64 0)]⟩,
  ⟨(some 7), none, .mov, [.cn (.bool false)]⟩])
 .ret)
  .skip))
 (.seq (.seq (.region [⟨(some 73), none, .mov, [.tm 10]⟩,
  ⟨(some 74), none, (.cmp .gtr), [.tm 73, .cn (.int .i64 0)]⟩])
 (.cond (.tm 74) (.region [⟨(some 75), none, .mov, [.tm 9]⟩,
  ⟨(some 76), none, (.fieldAddr 2), [.tm 3]⟩,
  ⟨(some 77), none, (.load false 1), [.tm 76]⟩,
  ⟨(some 78), none, (.ari .add), [.tm 75, .tm 77]⟩,
  ⟨(some 9), none, .mov, [.tm 78]⟩])
  .skip))
 (.seq (.region [⟨(some 79), none, .mov, [.tm 9]⟩,
  ⟨(some 80), none, .mov, [.tm 12]⟩,
  ⟨(some 81), none, (.ari .add), [.tm 79, .tm 80]⟩,
  ⟨(some 9), none, .mov, [.tm 81]⟩])
 (.region [⟨(some 82), none, .mov, [.tm 8]⟩,
  ⟨(some 83), none, .mov, [.tm 2]⟩,
  ⟨(some 84), none, .mov, [.tm 10]⟩,
  ⟨(some 85), none, (.idxAddr 1), [.tm 83, .tm 84]⟩,
  ⟨(some 86), none, (.load false 1), [.tm 85]⟩,
  ⟨(some 87), none, (.ari .add), [.tm 82, .tm 86]⟩,
  ⟨(some 8), none, .mov, [.tm 87]⟩]))))))))
 (.region [⟨(some 18), none, .mov, [.tm 10]⟩,
  ⟨(some 19), none, (.ari .add), [.tm 18, .cn (.int .i64 1)]⟩,
  ⟨(some 10), none, .mov, [.tm 19]⟩]))))))
 (.seq (.region [⟨(some 88), none, .mov, [.tm 9]⟩,
  ⟨(some 89), none, .mov, [.tm 8]⟩,
  ⟨(some 90), none, .mov, [.tm 1]⟩,
  ⟨(some 91), none, .len, [.tm 90]⟩,
  ⟨(some 92), none, (.cmp .eql), [.tm 89, .tm 91]⟩,
  ⟨(some 6), none, .mov, [.tm 88]⟩,
  ⟨(some 7), none, .mov, [.tm 92]⟩])
 .ret)))) }
theorem v24_is : vfunc Try.prog Try.f24 = some v24 := by kernel_rfl


theorem wide_step {b : Brd} {w : Int} {l : List Ft} {t : Nat} (h : t < l.length) : wideG b w (l.take (t + 1)) = wideG b w (l.take t) + (b.c + 2 * (l.getD t default).1) := by
  rw [List.take_add_one, wideG_app, List.getElem?_eq_getElem h, List.getD_eq_getElem?_getD, List.getElem?_eq_getElem h]; rfl
theorem deep_step {w : Int} {l : List Ft} {t : Nat} (h : t < l.length) : deepG w (l.take (t + 1)) = max (deepG w (l.take t)) (2 * (l.getD t default).1) := by
  rw [List.take_add_one, deepG_app, List.getElem?_eq_getElem h, List.getD_eq_getElem?_getD, List.getElem?_eq_getElem h]; rfl
theorem wide_rng {b : Brd} (hc : 0 ≤ b.c ∧ b.c ≤ 1000000) : ∀ (l : List Ft) (w : Int), (∀ f ∈ l, okF f) → w ≤ wideG b w l ∧ wideG b w l ≤ w + 3000000 * l.length
  | [], w, _ => by
    have : wideG b w [] = w := rfl
    rw [this]; simp
  | f :: l, w, h => by
    obtain ⟨⟨f1, f2⟩, _⟩ := h f List.mem_cons_self
    have := wide_rng hc l (w + (b.c + 2 * f.1)) fun g hg => h g (List.mem_cons_of_mem _ hg)
    have e : wideG b w (f :: l) = wideG b (w + (b.c + 2 * f.1)) l := rfl
    rw [e, List.length_cons]; omega
theorem getD_drop' {l : List Ft} {a t : Nat} : (l.drop a).getD t default = l.getD (a + t) default := by
  rw [List.getD_eq_getElem?_getD, List.getElem?_drop, ← List.getD_eq_getElem?_getD]
def dpC : Ctr := { alias := false, of := fun l => match l with
  | [.agg [.int .i64 w, .int .i64 d, .int .i64 c, .int .i64 a, .int .i64 s, .vs _ _ n sz get], .vs _ _ n' sz' get', .vs _ _ n'' sz'' get''] => .ex Brd fun b => .ex (List Ft) fun l => .ex (List Int) fun ks => .pre (brdP b w d c a s n sz get ∧ lsP 2 encT n' sz' get' l ∧ lsP 1 enc1 n'' sz'' get'' ks ∧ okB b ∧ (∀ f ∈ l, okF f) ∧ l.length ≤ 200 ∧ ks.length ≤ 1000000) (.fin (.tup [.int .i64 (depF b l ks 0 true).1, .bool (depF b l ks 0 true).2]) [])
  | _ => noC }
def O3 : Env := { ct := fun _ => none, fn := fun _ => none, meth := fun _ _ => none }
theorem O3_ok : EnvOk Try.prog O3 := by
  refine ⟨fun f c h => ?_, fun f vf h => ?_, (fun _ _ _ h => by cases h), by kernel_rfl⟩
  · cases h
  · cases h

theorem ans_ibo {k : SV → List HO → Prop} {al : Bool} {hp : List HO} {b : Bool} {e : Int} (h : k (.tup [.int .i64 e, .bool b]) []) : answers al k (.tup [.int .i64 e, .bool b]) hp :=
  ans_le h (le_self (.tup [.int .i64 e, .bool b]) ⟨trivial, trivial, trivial⟩) (fun _ => by simp [freshS, freshL])
theorem rdp_ok : dpC.ok Try.prog 24 := by
  refine contract Try.func24 v24_is O3_ok 300 dpC fun args k h => ?_
  simp only [dpC] at h
  split at h
  · rename_i w d c a s t z n sz get t' z' n' sz' get' t'' z'' n'' sz'' get''
    obtain ⟨b, l, ks, ⟨hbp, ⟨rfl, rfl, hg⟩, ⟨rfl, rfl, hg'⟩, hb, hl, hlen, hkl⟩, h⟩ := h
    refine ⟨[.agg (encB t z b), .vs t' z' l.length 2 (fun k => encT (l.getD k default)), .vs t'' z'' ks.length 1 (fun k => enc1 (ks.getD k default))], ⟨brd_le hbp, by simpa [le] using hg, by simpa [le] using hg', trivial⟩, ?_⟩
    have h : k (.tup [.int .i64 (depF b l ks 0 true).1, .bool (depF b l ks 0 true).2]) [] := h
    dsimp only [v24, encB, encT, enc1, go_sem, Option.bind, Option.map, List.append_nil, Nat.beq, List.cons_append, List.nil_append, List.append_eq, List.map_cons, List.map_nil, ite_self, reduceIte]
    simp only [true_and, and_true, imp_self, implies_true, decide_eq_true_eq, decide_eq_false_iff_not, Nat.reduceAdd, Nat.reduceLeDiff, Bool.not_not, reduceCtorEq, false_imp_iff, Bool.not_eq_true', Bool.not_eq_false', Bool.false_eq_true, and_self, forall_const, ne_eq, not_false_eq_true, Nat.reduceEqDiff]
    have hb' := hb
    obtain ⟨⟨_, _⟩, ⟨_, _⟩, ⟨hc0, hc1⟩, _⟩ := hb'
    refine Loop.keep [1, 0, 0] (Nat × Nat × Int) (fun x => [(8, .int .i64 x.2.1), (9, .int .i64 x.2.2), (10, .int .i64 x.1)]) (fun _ => []) [] (fun x => x.1 ≤ ks.length ∧ x.2.1 ≤ l.length ∧ (0 ≤ x.2.2 ∧ x.2.2 ≤ 3000000 * x.2.1) ∧ depF b l ks 0 true = depF b (l.drop x.2.1) (ks.drop x.1) x.2.2 (decide (x.1 = 0))) (fun x => ks.length - x.1) ?_ ?_
    · refine ⟨(0, 0, 0), ⟨Nat.zero_le _, Nat.zero_le _, by simp, rfl⟩, ?_⟩
      dsimp only [go_sem, Option.bind, Option.map, List.append_nil, Nat.beq, List.cons_append, List.nil_append, List.append_eq, List.map_cons, List.map_nil, ite_self, reduceIte]
      simp only [leS_mk, leL_cons, leL_nil, le_junk, le_int, le_bool, le_nil, leLL_nil, leLL_cons, leH_cons, leH_nil, leH1_box, leH1_own, leH1_gone, le_vs, le_agg, le_tup, le_ptr, le_own, le_xp, le_fn, le_opt, le_val, le_elem, le_nil_own, le_nil_vs, leH_ghost, leL_chunk, leXL_id, bnd_int, bnd_bool, bnd_val, bnd_nil, bnd_junk, bnd_vs, bnd_xp, bnd_agg, bnd_tup, bnd_ptr, bnd_own, bnd_elem, bnd_fn, bnd_iface, bnd_opt, bndL_nil, bndL_cons, lenH_cons, lenH_nil, imp_self, implies_true, true_and, and_true]
      simp
    · rintro ⟨i, at', dep⟩ ⟨hi, hat, hdep, he⟩
      dsimp only at hi hat hdep he
      rw [he] at h
      dsimp only [enc1, encT, Int.toNat_natCast, go_sem, Option.bind, Option.map, List.append_nil, Nat.beq, List.cons_append, List.nil_append, List.append_eq, List.map_cons, List.map_nil, ite_self, reduceIte]
      simp only [true_and, and_true, imp_self, implies_true, decide_eq_true_eq, decide_eq_false_iff_not, Nat.reduceAdd, Nat.reduceLeDiff, Bool.not_not, reduceCtorEq, false_imp_iff, Bool.not_eq_true', Bool.not_eq_false', Bool.false_eq_true, and_self, forall_const, ne_eq, not_false_eq_true, Nat.reduceEqDiff]
      refine ⟨fun hlt => ?_, fun hge => ?_⟩
      · obtain ⟨K, hK⟩ : ∃ K, K = ks.getD i default := ⟨_, rfl⟩
        rw [drop_cons' (show i < ks.length by omega), ← hK, depF] at h
        rw [← hK, mid_w (x := (l.length : Int) - at') (by omega)]
        have hdl : (l.drop at').length = l.length - at' := List.length_drop
        refine ⟨⟨by omega, hlt⟩, fun _ => ⟨by omega, hlt⟩, fun hc => ?_, fun hc => ?_⟩
        · simp only [Bool.or_eq_true, decide_eq_true_eq] at hc
          rw [if_pos (by omega)] at h
          exact ans_ibo h
        · simp only [Bool.or_eq_false_iff, decide_eq_false_iff_not] at hc
          rw [if_neg (by omega)] at h
          obtain ⟨m, rfl⟩ := Int.eq_ofNat_of_zero_le (show 0 ≤ K by omega)
          rw [Int.toNat_natCast] at h
          have hlD : ∀ f ∈ l.drop at', okF f := fun f hf => hl f (List.mem_of_mem_drop hf)
          rw [mid_w (x := 0 - b.c) (by omega), Int.zero_sub]
          refine Loop.keep [1, 0, 0, 4, 0, 0] Nat (fun t => [(11, .int .i64 (wideG b (-b.c) ((l.drop at').take t))), (12, .int .i64 (deepG 0 ((l.drop at').take t))), (13, .int .i64 ((at' + t : Nat) : Int))]) (fun _ => []) [] (fun t => t ≤ m) (fun t => m - t) ?_ ?_
          · refine ⟨0, Nat.zero_le _, ?_⟩
            dsimp only [go_sem, Option.bind, Option.map, List.append_nil, Nat.beq, List.cons_append, List.nil_append, List.append_eq, List.map_cons, List.map_nil, ite_self, reduceIte]
            simp only [leS_mk, leL_cons, leL_nil, le_junk, le_int, le_bool, le_nil, leLL_nil, leLL_cons, leH_cons, leH_nil, leH1_box, leH1_own, leH1_gone, le_vs, le_agg, le_tup, le_ptr, le_own, le_xp, le_fn, le_opt, le_val, le_elem, le_nil_own, le_nil_vs, leH_ghost, leL_chunk, leXL_id, bnd_int, bnd_bool, bnd_val, bnd_nil, bnd_junk, bnd_vs, bnd_xp, bnd_agg, bnd_tup, bnd_ptr, bnd_own, bnd_elem, bnd_fn, bnd_iface, bnd_opt, bndL_nil, bndL_cons, lenH_cons, lenH_nil, imp_self, implies_true, true_and, and_true]
            simp [wideG, deepG]
          · rintro t ht
            dsimp only [enc1, encT, Int.toNat_natCast, go_sem, Option.bind, Option.map, List.append_nil, Nat.beq, List.cons_append, List.nil_append, List.append_eq, List.map_cons, List.map_nil, ite_self, reduceIte]
            simp only [true_and, and_true, imp_self, implies_true, decide_eq_true_eq, decide_eq_false_iff_not, Nat.reduceAdd, Nat.reduceLeDiff, Bool.not_not, reduceCtorEq, false_imp_iff, Bool.not_eq_true', Bool.not_eq_false', Bool.false_eq_true, and_self, forall_const, ne_eq, not_false_eq_true, Nat.reduceEqDiff]
            rw [← hK]
            have hw := wide_rng (b := b) ⟨hc0, hc1⟩ ((l.drop at').take t) (-b.c) fun f hf => hlD f (List.mem_of_mem_take hf)
            have htl : ((l.drop at').take t).length = t := by rw [List.length_take]; omega
            have hdp := deepG_rng ((l.drop at').take t) 0 (fun f hf => hlD f (List.mem_of_mem_take hf)) (by omega) (by omega)
            rw [htl] at hw
            have wA : IntKind.i64.wrap ((at' : Int) + (m : Int)) = ((at' + m : Nat) : Int) := by rw [mid_w (by omega)]; omega
            rw [wA]
            refine ⟨⟨by omega, hlt⟩, fun hlt2 => ?_, fun hge2 => ?_⟩
            · have hf := hl _ (getD_mem (show at' + t < l.length by omega))
              obtain ⟨⟨_, _⟩, _⟩ := hf
              have e1 := wide_step (b := b) (w := -b.c) (l := l.drop at') (t := t) (by omega)
              have e2 := deep_step (w := 0) (l := l.drop at') (t := t) (by omega)
              rw [getD_drop'] at e1 e2
              refine ⟨⟨by omega, by omega⟩, ⟨by omega, by omega⟩, t + 1, by omega, by omega, ?_⟩
              rw [e1, e2]
              generalize (l.getD (at' + t) default).1 = F at *
              generalize wideG b (-b.c) ((l.drop at').take t) = W at *
              generalize deepG 0 ((l.drop at').take t) = D at *
              have w1 : IntKind.i64.wrap (2 * F) = 2 * F := mid_w (by omega)
              have w2 : IntKind.i64.wrap (W + b.c) = W + b.c := mid_w (by omega)
              have w3 : IntKind.i64.wrap (W + b.c + 2 * F) = W + (b.c + 2 * F) := by rw [mid_w (by omega)]; omega
              have w4 : IntKind.i64.wrap (((at' + t : Nat) : Int) + 1) = ((at' + (t + 1) : Nat) : Int) := by rw [mid_w (by omega)]; omega
              simp only [w1, w2, w3, w4, leS_mk, leL_cons, leL_nil, le_junk, le_int, le_bool, le_nil, leLL_nil, leLL_cons, leH_cons, leH_nil, leH1_box, leH1_own, leH1_gone, le_vs, le_agg, le_tup, le_ptr, le_own, le_xp, le_fn, le_opt, le_val, le_elem, le_nil_own, le_nil_vs, leH_ghost, leL_chunk, leXL_id, bnd_int, bnd_bool, bnd_val, bnd_nil, bnd_junk, bnd_vs, bnd_xp, bnd_agg, bnd_tup, bnd_ptr, bnd_own, bnd_elem, bnd_fn, bnd_iface, bnd_opt, bndL_nil, bndL_cons, lenH_cons, lenH_nil, imp_self, implies_true, true_and, and_true] <;> simp
            · obtain rfl : t = m := by omega
              refine ⟨fun hw2 => ?_, fun hw2 => ?_⟩
              · rw [if_pos hw2] at h; exact ans_ibo h
              · have he' := he
                rw [drop_cons' (show i < ks.length by omega), ← hK, depF, if_neg (by omega), Int.toNat_natCast, if_neg hw2, List.drop_drop] at he'
                generalize deepG 0 ((l.drop at').take t) = D at *
                have w1 : IntKind.i64.wrap (dep + b.c) = dep + b.c := mid_w (by omega)
                have w2 : IntKind.i64.wrap (dep + D) = dep + D := mid_w (by omega)
                have w3 : IntKind.i64.wrap (dep + b.c + D) = dep + b.c + D := mid_w (by omega)
                have w4 : IntKind.i64.wrap ((i : Int) + 1) = ((i + 1 : Nat) : Int) := by rw [mid_w (by omega)]; omega
                refine ⟨fun h0 => ?_, fun h0 => ?_⟩
                · rw [decide_eq_false (show ¬ i = 0 by omega)] at he'
                  refine ⟨⟨by omega, hlt⟩, (i + 1, at' + t, dep + b.c + D), ⟨by dsimp only; omega, by dsimp only; omega, by dsimp only; omega, ?_⟩, by dsimp only; omega, ?_⟩
                  · rw [decide_eq_false (show ¬ i + 1 = 0 by omega)]; exact he'
                  · simp only [w1, w3, w4, wA, leS_mk, leL_cons, leL_nil, le_junk, le_int, le_bool, le_nil, leLL_nil, leLL_cons, leH_cons, leH_nil, leH1_box, leH1_own, leH1_gone, le_vs, le_agg, le_tup, le_ptr, le_own, le_xp, le_fn, le_opt, le_val, le_elem, le_nil_own, le_nil_vs, leH_ghost, leL_chunk, leXL_id, bnd_int, bnd_bool, bnd_val, bnd_nil, bnd_junk, bnd_vs, bnd_xp, bnd_agg, bnd_tup, bnd_ptr, bnd_own, bnd_elem, bnd_fn, bnd_iface, bnd_opt, bndL_nil, bndL_cons, lenH_cons, lenH_nil, imp_self, implies_true, true_and, and_true] <;> simp
                · rw [decide_eq_true (show i = 0 by omega)] at he'
                  refine ⟨⟨by omega, hlt⟩, (i + 1, at' + t, dep + D), ⟨by dsimp only; omega, by dsimp only; omega, by dsimp only; omega, ?_⟩, by dsimp only; omega, ?_⟩
                  · rw [decide_eq_false (show ¬ i + 1 = 0 by omega)]; exact he'
                  · simp only [w2, w4, wA, leS_mk, leL_cons, leL_nil, le_junk, le_int, le_bool, le_nil, leLL_nil, leLL_cons, leH_cons, leH_nil, leH1_box, leH1_own, leH1_gone, le_vs, le_agg, le_tup, le_ptr, le_own, le_xp, le_fn, le_opt, le_val, le_elem, le_nil_own, le_nil_vs, leH_ghost, leL_chunk, leXL_id, bnd_int, bnd_bool, bnd_val, bnd_nil, bnd_junk, bnd_vs, bnd_xp, bnd_agg, bnd_tup, bnd_ptr, bnd_own, bnd_elem, bnd_fn, bnd_iface, bnd_opt, bndL_nil, bndL_cons, lenH_cons, lenH_nil, imp_self, implies_true, true_and, and_true] <;> simp
      · obtain rfl : i = ks.length := by omega
        rw [List.drop_of_length_le (Nat.le_refl _), depF, List.length_drop] at h
        have e : decide ((at' : Int) = (l.length : Int)) = decide (l.length - at' = 0) := by rw [Bool.eq_iff_iff, decide_eq_true_iff, decide_eq_true_iff]; omega
        rw [e]
        exact ans_ibo h
  · exact h.1.elim
end Go.Proofs.Ytojaibhjfeojjaa

/- Layouts, walked: the reference's Placed. -/
set_option linter.all false
namespace Go.Proofs.Ytojaibhjfeojjaa
open Go Go.Vx
set_option maxRecDepth 100000
set_option maxHeartbeats 4000000

def v25 : VF := { ntmps := 99, res := [.tmp 6], body :=
 (.seq (.region [⟨(some 3), none, .box, [.tm 0]⟩,
  ⟨(some 6), none, .mov, [.cn .nil]⟩])
 (.seq (.region [⟨(some 7), none, .mov, [.cn .nil]⟩])
 (.seq (.region [⟨(some 8), none, .mov, [.cn (.int .i64 0)]⟩,
  ⟨(some 9), none, .mov, [.cn (.int .i64 0)]⟩])
 (.seq (.seq (.region [⟨(some 10), none, .mov, [.cn (.int .i64 0)]⟩])
 (.block 0 (.loop (.seq (.seq (.region [⟨(some 15), none, .mov, [.tm 10]⟩,
  ⟨(some 16), none, .mov, [.tm 2]⟩,
  ⟨(some 17), none, .len, [.tm 16]⟩,
  ⟨(some 18), none, (.cmp .lss), [.tm 15, .tm 17]⟩])
 (.cond (.tm 18) .skip
  (.exit 0)))
 (.seq (.block 1 (.seq (.region [⟨(some 11), none, .mov, [.cn (.int .i64 0)]⟩])
 (.seq (.seq (.region [⟨(some 21), none, .mov, [.tm 8]⟩,
  ⟨(some 12), none, .mov, [.tm 21]⟩])
 (.block 2 (.loop (.seq (.seq (.region [⟨(some 22), none, .mov, [.tm 12]⟩,
  ⟨(some 23), none, .mov, [.tm 8]⟩,
  ⟨(some 24), none, .mov, [.tm 2]⟩,
  ⟨(some 25), none, .mov, [.tm 10]⟩,
  ⟨(some 26), none, (.idxAddr 1), [.tm 24, .tm 25]⟩,
  ⟨(some 27), none, (.load false 1), [.tm 26]⟩,
  ⟨(some 28), none, (.ari .add), [.tm 23, .tm 27]⟩,
  ⟨(some 29), none, (.cmp .lss), [.tm 22, .tm 28]⟩])
 (.cond (.tm 29) .skip
  (.exit 2)))
 (.seq (.block 3 (.region [⟨(some 32), none, .mov, [.tm 11]⟩,
  ⟨(some 33), none, .mov, [.tm 1]⟩,
  ⟨(some 34), none, .mov, [.tm 12]⟩,
  ⟨(some 35), none, (.idxAddr 2), [.tm 33, .tm 34]⟩,
  ⟨(some 36), none, (.fieldAddr 0), [.tm 35]⟩,
  ⟨(some 37), none, (.load false 1), [.tm 36]⟩,
  ⟨(some 38), none, .max, [.tm 32, .tm 37]⟩,
  ⟨(some 11), none, .mov, [.tm 38]⟩]))
 (.region [⟨(some 30), none, .mov, [.tm 12]⟩,
  ⟨(some 31), none, (.ari .add), [.tm 30, .cn (.int .i64 1)]⟩,
  ⟨(some 12), none, .mov, [.tm 31]⟩]))))))
 (.seq (.region [⟨(some 13), none, .mov, [.cn (.int .i64 0)]⟩])
 (.seq (.seq (.region [⟨(some 39), none, .mov, [.tm 8]⟩,
  ⟨(some 14), none, .mov, [.tm 39]⟩])
 (.block 4 (.loop (.seq (.seq (.region [⟨(some 40), none, .mov, [.tm 14]⟩,
  ⟨(some 41), none, .mov, [.tm 8]⟩,
  ⟨(some 42), none, .mov, [.tm 2]⟩,
  ⟨(some 43), none, .mov, [.tm 10]⟩,
  ⟨(some 44), none, (.idxAddr 1), [.tm 42, .tm 43]⟩,
  ⟨(some 45), none, (.load false 1), [.tm 44]⟩,
  ⟨(some 46), none, (.ari .add), [.tm 41, .tm 45]⟩,
  ⟨(some 47), none, (.cmp .lss), [.tm 40, .tm 46]⟩])
 (.cond (.tm 47) .skip
  (.exit 4)))
 (.seq (.block 5 (.seq (.draw [] [⟨⟨(some 50), none, .mov, [.tm 7]⟩, []⟩,
  ⟨⟨(some 51), none, .mov, [.tm 13]⟩, []⟩,
  ⟨⟨(some 52), none, .mov, [.tm 1]⟩, []⟩,
  ⟨⟨(some 53), none, .mov, [.tm 14]⟩, []⟩,
  ⟨⟨(some 54), none, (.idxAddr 2), [.tm 52, .tm 53]⟩, []⟩,
  ⟨⟨(some 55), none, (.fieldAddr 0), [.tm 54]⟩, []⟩,
  ⟨⟨(some 56), none, (.load false 1), [.tm 55]⟩, []⟩,
  ⟨⟨(some 57), none, (.ari .add), [.tm 51, .tm 56]⟩, []⟩,
  ⟨⟨(some 58), none, .mov, [.tm 9]⟩, []⟩,
  ⟨⟨(some 59), none, .mov, [.tm 11]⟩, []⟩,
  ⟨⟨(some 60), none, (.ari .add), [.tm 58, .tm 59]⟩, []⟩,
  ⟨⟨(some 61), none, .mov, [.tm 1]⟩, []⟩,
  ⟨⟨(some 62), none, .mov, [.tm 14]⟩, []⟩,
  ⟨⟨(some 63), none, (.idxAddr 2), [.tm 61, .tm 62]⟩, []⟩,
  ⟨⟨(some 64), none, (.fieldAddr 0), [.tm 63]⟩, []⟩,
  ⟨⟨(some 65), none, (.load false 1), [.tm 64]⟩, []⟩,
  ⟨⟨(some 66), none, .mov, [.tm 1]⟩, []⟩,
  ⟨⟨(some 67), none, .mov, [.tm 14]⟩, []⟩,
  ⟨⟨(some 68), none, (.idxAddr 2), [.tm 66, .tm 67]⟩, []⟩,
  ⟨⟨(some 69), none, (.fieldAddr 1), [.tm 68]⟩, []⟩,
  ⟨⟨(some 70), none, (.load false 1), [.tm 69]⟩, []⟩,
  ⟨⟨(some 71), none, (.build [(.int .i64 0), (.int .i64 0), (.int .i64 0), (.int .i64 0)] [(0, 1), (1, 1), (2, 1), (3, 1)]), [.tm 57, .tm 60, .tm 65, .tm 70]⟩, []⟩,
  ⟨⟨(some 72), none, (.buildSlice 4 1 [(.int .i64 0), (.int .i64 0), (.int .i64 0), (.int .i64 0)] [(0, 4)]), [.tm 71]⟩, []⟩,
  ⟨⟨(some 73), none, (.append 4 32 [(.int .i64 0), (.int .i64 0), (.int .i64 0), (.int .i64 0)]), [.tm 50, .tm 72]⟩, []⟩,
  ⟨⟨(some 7), none, .mov, [.tm 73]⟩, []⟩])
 (.draw [] [⟨⟨(some 74), none, .mov, [.tm 13]⟩, []⟩,
  ⟨⟨(some 75), none, .mov, [.tm 1]⟩, []⟩,
  ⟨⟨(some 76), none, .mov, [.tm 14]⟩, []⟩,
  ⟨⟨(some 77), none, (.idxAddr 2), [.tm 75, .tm 76]⟩, []⟩,
  ⟨⟨(some 78), none, (.fieldAddr 0), [.tm 77]⟩, []⟩,
  ⟨⟨(some 79), none, (.load false 1), [.tm 78]⟩, []⟩,
  ⟨⟨(some 80), none, (.ari .mul), [.cn (.int .i64 2), .tm 79]⟩, []⟩,
  ⟨⟨(some 81), none, (.ari .add), [.tm 74, .tm 80]⟩, []⟩,
  ⟨⟨(some 82), none, (.fieldAddr 2), [.tm 3]⟩, []⟩,
  ⟨⟨(some 83), none, (.load false 1), [.tm 82]⟩, []⟩,
  ⟨⟨(some 84), none, (.ari .add), [.tm 81, .tm 83]⟩, []⟩,
  ⟨⟨(some 13), none, .mov, [.tm 84]⟩, []⟩])))
 (.region [⟨(some 48), none, .mov, [.tm 14]⟩,
  ⟨(some 49), none, (.ari .add), [.tm 48, .cn (.int .i64 1)]⟩,
  ⟨(some 14), none, .mov, [.tm 49]⟩]))))))
 (.seq (.region [⟨(some 85), none, .mov, [.tm 8]⟩,
  ⟨(some 86), none, .mov, [.tm 2]⟩,
  ⟨(some 87), none, .mov, [.tm 10]⟩,
  ⟨(some 88), none, (.idxAddr 1), [.tm 86, .tm 87]⟩,
  ⟨(some 89), none, (.load false 1), [.tm 88]⟩,
  ⟨(some 90), none, (.ari .add), [.tm 85, .tm 89]⟩,
  ⟨(some 8), none, .mov, [.tm 90]⟩])
 (.region [⟨(some 91), none, .mov, [.tm 9]⟩,
  ⟨(some 92), none, .mov, [.tm 11]⟩,
  ⟨(some 93), none, (.ari .mul), [.cn (.int .i64 2), .tm 92]⟩,
  ⟨(some 94), none, (.ari .add), [.tm 91, .tm 93]⟩,
  ⟨(some 95), none, (.fieldAddr 2), [.tm 3]⟩,
  ⟨(some 96), none, (.load false 1), [.tm 95]⟩,
  ⟨(some 97), none, (.ari .add), [.tm 94, .tm 96]⟩,
  ⟨(some 9), none, .mov, [.tm 97]⟩])))))))
 (.region [⟨(some 19), none, .mov, [.tm 10]⟩,
  ⟨(some 20), none, (.ari .add), [.tm 19, .cn (.int .i64 1)]⟩,
  ⟨(some 10), none, .mov, [.tm 20]⟩]))))))
 (.seq (.region [⟨(some 98), none, .mov, [.tm 7]⟩,
  ⟨(some 6), none, .mov, [.tm 98]⟩])
 .ret))))) }
theorem v25_is : vfunc Try.prog Try.f25 = some v25 := by kernel_rfl


def plcC : Ctr := { alias := false, of := fun l => match l with
  | [.agg [.int .i64 w, .int .i64 d, .int .i64 c, .int .i64 a, .int .i64 s, .vs _ _ n sz get], .vs _ _ n' sz' get', .vs _ _ n'' sz'' get''] => .ex Brd fun b => .ex (List Ft) fun l => .ex (List Nat) fun ks => .pre (brdP b w d c a s n sz get ∧ lsP 2 encT n' sz' get' l ∧ lsP 1 enc1 n'' sz'' get'' (castL ks) ∧ okB b ∧ (∀ f ∈ l, okF f) ∧ l.length ≤ 200 ∧ dvP b l ks) (.fin (lsS (placeL b ks l 0)) [])
  | _ => noC }
def O4 : Env := { ct := fun _ => none, fn := fun _ => none, meth := fun _ _ => none }
theorem O4_ok : EnvOk Try.prog O4 := by
  refine ⟨fun f c h => ?_, fun f vf h => ?_, (fun _ _ _ h => by cases h), by kernel_rfl⟩
  · cases h
  · cases h

theorem cast_len : ∀ ks : List Nat, (castL ks).length = ks.length
  | [] => rfl
  | k :: ks => by rw [castL, List.length_cons, List.length_cons, cast_len ks]
theorem cast_get : ∀ (ks : List Nat) (i : Nat), i < ks.length → (castL ks).getD i default = ((ks.getD i default : Nat) : Int)
  | k :: ks, 0, _ => rfl
  | k :: ks, i + 1, h => by
    have := cast_get ks i (by rw [List.length_cons] at h; omega)
    simpa [castL] using this
theorem dv_len {b : Brd} : ∀ (ks : List Nat) (l : List Ft), dvP b l ks → ks.length ≤ l.length
  | [], l, _ => Nat.zero_le _
  | k :: ks, l, h => by
    obtain ⟨h1, h2, _, h4⟩ := h
    have := dv_len ks _ h4
    rw [List.length_drop] at this
    rw [List.length_cons]; omega
theorem most_step {l : List Ft} {t : Nat} (h : t < l.length) : mostF (l.take (t + 1)) = max (mostF (l.take t)) (l.getD t default).1 := by
  unfold mostF
  rw [foldl_take_succ h]
theorem rplc_ok : plcC.ok Try.prog 25 := by
  refine contract Try.func25 v25_is O4_ok 300 plcC fun args k h => ?_
  simp only [plcC] at h
  split at h
  · rename_i w d c a s t z n sz get t' z' n' sz' get' t'' z'' n'' sz'' get''
    obtain ⟨b, l, ks, ⟨hbp, ⟨rfl, rfl, hg⟩, ⟨rfl, rfl, hg'⟩, hb, hl, hlen, hdv⟩, h⟩ := h
    refine ⟨[.agg (encB t z b), .vs t' z' l.length 2 (fun k => encT (l.getD k default)), .vs t'' z'' (castL ks).length 1 (fun k => enc1 ((castL ks).getD k default))], ⟨brd_le hbp, by simpa [le] using hg, by simpa [le] using hg', trivial⟩, ?_⟩
    have hkl := dv_len ks l hdv
    rw [cast_len]
    obtain ⟨T, hT⟩ : ∃ T, T = placeL b ks l 0 := ⟨_, rfl⟩
    have h : k (lsS (placeL b ks l 0)) [] := h
    rw [← hT] at h
    dsimp only [v25, encB, encT, enc1, go_sem, Option.bind, Option.map, List.append_nil, Nat.beq, List.cons_append, List.nil_append, List.append_eq, List.map_cons, List.map_nil, ite_self, reduceIte]
    simp only [true_and, and_true, imp_self, implies_true, decide_eq_true_eq, decide_eq_false_iff_not, Nat.reduceAdd, Nat.reduceLeDiff, Bool.not_not, reduceCtorEq, false_imp_iff, Bool.not_eq_true', Bool.not_eq_false', Bool.false_eq_true, and_self, forall_const, ne_eq, not_false_eq_true, Nat.reduceEqDiff]
    have hb' := hb
    obtain ⟨⟨_, _⟩, ⟨_, _⟩, ⟨hc0, hc1⟩, _⟩ := hb'
    refine Loop.keep [1, 0, 0] (Nat × Nat × Int × List Std) (fun x => [(7, .own 1 0 x.2.2.2.length 4), (8, .int .i64 x.2.1), (9, .int .i64 x.2.2.1), (10, .int .i64 x.1)]) (fun x => [(1, .own (decide (x.2.2.2.length = 0)) 4 x.2.2.2.length (fun k => encS (x.2.2.2.getD k default)))]) [.gone] (fun x => x.1 ≤ ks.length ∧ x.2.1 ≤ l.length ∧ x.2.2.2.length = x.2.1 ∧ (0 ≤ x.2.2.1 ∧ x.2.2.1 ≤ 3000000 * x.2.1) ∧ dvP b (l.drop x.2.1) (ks.drop x.1) ∧ x.2.2.2 ++ placeL b (ks.drop x.1) (l.drop x.2.1) x.2.2.1 = T) (fun x => ks.length - x.1) ?_ ?_
    · refine ⟨(0, 0, 0, []), ⟨Nat.zero_le _, Nat.zero_le _, rfl, ⟨Int.le_refl _, by dsimp only; omega⟩, hdv, by rw [hT]; rfl⟩, ?_⟩
      dsimp only [encS, go_sem, Option.bind, Option.map, List.append_nil, Nat.beq, List.cons_append, List.nil_append, List.append_eq, List.map_cons, List.map_nil, ite_self, reduceIte]
      simp only [leH_ghost, leS_mk, leL_cons, leL_nil, le_junk, le_int, le_bool, le_nil, leLL_nil, leLL_cons, leH_cons, leH_nil, leH1_box, leH1_own, leH1_gone, le_vs, le_agg, le_tup, le_ptr, le_own, le_xp, le_fn, le_opt, le_val, le_elem, le_nil_own, le_nil_vs, leH_ghost, leL_chunk, leXL_id, bnd_int, bnd_bool, bnd_val, bnd_nil, bnd_junk, bnd_vs, bnd_xp, bnd_agg, bnd_tup, bnd_ptr, bnd_own, bnd_elem, bnd_fn, bnd_iface, bnd_opt, bndL_nil, bndL_cons, lenH_cons, lenH_nil, imp_self, implies_true, true_and, and_true] <;> simp
    · rintro ⟨i, A, y, o⟩ ⟨hi, hA, hol, ⟨hy1, hy2⟩, hd, hTe⟩
      dsimp only at hi hA hol hy1 hy2 hd hTe
      dsimp only [encS, encT, Int.toNat_natCast, go_sem, Option.bind, Option.map, List.append_nil, Nat.beq, List.cons_append, List.nil_append, List.append_eq, List.map_cons, List.map_nil, ite_self, reduceIte]
      simp only [true_and, and_true, imp_self, implies_true, decide_eq_true_eq, decide_eq_false_iff_not, Nat.reduceAdd, Nat.reduceLeDiff, Bool.not_not, reduceCtorEq, false_imp_iff, Bool.not_eq_true', Bool.not_eq_false', Bool.false_eq_true, and_self, forall_const, ne_eq, not_false_eq_true, Nat.reduceEqDiff]
      refine ⟨fun hlt => ?_, fun hge => ?_⟩
      · have hlt' : i < ks.length := by omega
        obtain ⟨K, hK⟩ : ∃ K, K = ks.getD i default := ⟨_, rfl⟩
        rw [drop_cons' hlt', ← hK] at hd hTe
        obtain ⟨hk1, hk2, hkw, hd⟩ := hd
        have hdl : (l.drop A).length = l.length - A := List.length_drop
        obtain ⟨R, hR⟩ : ∃ R, R = (l.drop A).take K := ⟨_, rfl⟩
        have hRl : R.length = K := by rw [hR, List.length_take]; omega
        have hRg : ∀ q, q < K → R.getD q default = l.getD (A + q) default := fun q hq => by
          rw [hR, List.getD_eq_getElem?_getD, List.getElem?_take, if_pos hq, ← List.getD_eq_getElem?_getD, getD_drop']
        have hRo : ∀ f ∈ R, okF f := fun f hf => hl f (List.mem_of_mem_drop (List.mem_of_mem_take (by rw [← hR]; exact hf)))
        have hcg : (castL ks).getD i default = (K : Int) := by rw [cast_get _ _ hlt', ← hK]
        refine Loop.keep [1, 0, 0, 3, 0, 0, 0] Nat (fun t => [(11, .int .i64 (mostF (R.take t))), (12, .int .i64 ((A + t : Nat) : Int))]) (fun _ => []) [] (fun t => t ≤ K) (fun t => K - t) ?_ ?_
        · refine ⟨0, Nat.zero_le _, ?_⟩
          dsimp only [encS, go_sem, Option.bind, Option.map, List.append_nil, Nat.beq, List.cons_append, List.nil_append, List.append_eq, List.map_cons, List.map_nil, ite_self, reduceIte]
          simp only [leS_mk, leL_cons, leL_nil, le_junk, le_int, le_bool, le_nil, leLL_nil, leLL_cons, leH_cons, leH_nil, leH1_box, leH1_own, leH1_gone, le_vs, le_agg, le_tup, le_ptr, le_own, le_xp, le_fn, le_opt, le_val, le_elem, le_nil_own, le_nil_vs, leH_ghost, leL_chunk, leXL_id, bnd_int, bnd_bool, bnd_val, bnd_nil, bnd_junk, bnd_vs, bnd_xp, bnd_agg, bnd_tup, bnd_ptr, bnd_own, bnd_elem, bnd_fn, bnd_iface, bnd_opt, bndL_nil, bndL_cons, lenH_cons, lenH_nil, imp_self, implies_true, true_and, and_true]
          simp [mostF]
        · rintro t ht
          dsimp only [encS, encT, Int.toNat_natCast, go_sem, Option.bind, Option.map, List.append_nil, Nat.beq, List.cons_append, List.nil_append, List.append_eq, List.map_cons, List.map_nil, ite_self, reduceIte]
          simp only [true_and, and_true, imp_self, implies_true, decide_eq_true_eq, decide_eq_false_iff_not, Nat.reduceAdd, Nat.reduceLeDiff, Bool.not_not, reduceCtorEq, false_imp_iff, Bool.not_eq_true', Bool.not_eq_false', Bool.false_eq_true, and_self, forall_const, ne_eq, not_false_eq_true, Nat.reduceEqDiff]
          have wA : IntKind.i64.wrap ((A : Int) + (K : Int)) = ((A + K : Nat) : Int) := by rw [mid_w (by omega)]; omega
          simp only [hcg, wA]
          refine ⟨⟨by omega, by omega⟩, fun hlt2 => ?_, fun hge2 => ?_⟩
          · have ht' : t < K := by omega
            have e1 := most_step (l := R) (t := t) (by omega)
            rw [hRg t ht'] at e1
            have w4 : IntKind.i64.wrap (((A + t : Nat) : Int) + 1) = ((A + (t + 1) : Nat) : Int) := by rw [mid_w (by omega)]; omega
            refine ⟨⟨by omega, by omega⟩, t + 1, by omega, by omega, ?_⟩
            rw [e1]
            simp only [w4, leS_mk, leL_cons, leL_nil, le_junk, le_int, le_bool, le_nil, leLL_nil, leLL_cons, leH_cons, leH_nil, leH1_box, leH1_own, leH1_gone, le_vs, le_agg, le_tup, le_ptr, le_own, le_xp, le_fn, le_opt, le_val, le_elem, le_nil_own, le_nil_vs, leH_ghost, leL_chunk, leXL_id, bnd_int, bnd_bool, bnd_val, bnd_nil, bnd_junk, bnd_vs, bnd_xp, bnd_agg, bnd_tup, bnd_ptr, bnd_own, bnd_elem, bnd_fn, bnd_iface, bnd_opt, bndL_nil, bndL_cons, lenH_cons, lenH_nil, imp_self, implies_true, true_and, and_true] <;> simp
          · obtain rfl : t = K := by omega
            rw [List.take_of_length_le (Nat.le_of_eq hRl)]
            have hmr := mostF_rng R 0 hRo (Int.le_refl _) (by decide)
            obtain ⟨M, hM⟩ : ∃ M, M = mostF R := ⟨_, rfl⟩
            have hMr : 0 ≤ M ∧ M ≤ 1000000 := by rw [hM]; exact hmr
            rw [← hM]
            refine Loop.keep [1, 0, 0, 4, 0, 0, 0] (Nat × Int × List Std) (fun x => [(7, .own 1 0 x.2.2.length 4), (13, .int .i64 x.2.1), (14, .int .i64 ((A + x.1 : Nat) : Int))]) (fun x => [(1, .own (decide (x.2.2.length = 0)) 4 x.2.2.length (fun k => encS (x.2.2.getD k default)))]) [] (fun x => x.1 ≤ t ∧ x.2.2.length = A + x.1 ∧ (0 ≤ x.2.1 ∧ x.2.1 ≤ 3000000 * x.1) ∧ x.2.2 ++ rowF b (y + M) (R.drop x.1) x.2.1 = o ++ rowF b (y + M) R 0) (fun x => t - x.1) ?_ ?_
            · refine ⟨(0, 0, o), ⟨Nat.zero_le _, by dsimp only; omega, ⟨Int.le_refl _, by dsimp only; omega⟩, rfl⟩, ?_⟩
              dsimp only [encS, go_sem, Option.bind, Option.map, List.append_nil, Nat.beq, List.cons_append, List.nil_append, List.append_eq, List.map_cons, List.map_nil, ite_self, reduceIte]
              simp only [leS_mk, leL_cons, leL_nil, le_junk, le_int, le_bool, le_nil, leLL_nil, leLL_cons, leH_cons, leH_nil, leH1_box, leH1_own, leH1_gone, le_vs, le_agg, le_tup, le_ptr, le_own, le_xp, le_fn, le_opt, le_val, le_elem, le_nil_own, le_nil_vs, leH_ghost, leL_chunk, leXL_id, bnd_int, bnd_bool, bnd_val, bnd_nil, bnd_junk, bnd_vs, bnd_xp, bnd_agg, bnd_tup, bnd_ptr, bnd_own, bnd_elem, bnd_fn, bnd_iface, bnd_opt, bndL_nil, bndL_cons, lenH_cons, lenH_nil, imp_self, implies_true, true_and, and_true] <;> simp
            · rintro ⟨q, x, o'⟩ ⟨hq, hql, ⟨hx1, hx2⟩, hoe⟩
              dsimp only at hq hql hx1 hx2 hoe
              dsimp only [encS, encT, Int.toNat_natCast, go_sem, Option.bind, Option.map, List.append_nil, Nat.beq, List.cons_append, List.nil_append, List.append_eq, List.map_cons, List.map_nil, ite_self, reduceIte]
              simp only [true_and, and_true, imp_self, implies_true, decide_eq_true_eq, decide_eq_false_iff_not, Nat.reduceAdd, Nat.reduceLeDiff, Bool.not_not, reduceCtorEq, false_imp_iff, Bool.not_eq_true', Bool.not_eq_false', Bool.false_eq_true, and_self, forall_const, ne_eq, not_false_eq_true, Nat.reduceEqDiff]
              simp only [hcg, wA]
              refine ⟨⟨by omega, by omega⟩, fun hlq => ?_, fun hgq => ?_⟩
              · have hlq' : q < t := by omega
                have hf : okF (l.getD (A + q) default) := hl _ (getD_mem (by omega))
                have hRq := hRg q hlq'
                rw [drop_cons' (show q < R.length by omega), hRq, rowF] at hoe
                generalize l.getD (A + q) default = f at *
                obtain ⟨⟨f1, f2⟩, _⟩ := hf
                have w1 : IntKind.i64.wrap (x + f.1) = x + f.1 := mid_w (by omega)
                have w2 : IntKind.i64.wrap (y + M) = y + M := mid_w (by omega)
                have w3 : IntKind.i64.wrap (IntKind.i64.wrap (x + IntKind.i64.wrap (2 * f.1)) + b.c) = x + (2 * f.1 + b.c) := by
                  rw [mid_w (x := 2 * f.1) (by omega), mid_w (x := x + 2 * f.1) (by omega), mid_w (by omega)]; omega
                have w4 : IntKind.i64.wrap (((A + q : Nat) : Int) + 1) = ((A + (q + 1) : Nat) : Int) := by rw [mid_w (by omega)]; omega
                simp only [w1, w2, w3, w4]
                refine ⟨⟨by omega, by omega⟩, ⟨by omega, by omega⟩, ⟨by omega, by omega⟩, by decide, ⟨by unfold capOk; omega, fun p hp => match p, hp with | 0, _ => ⟨rfl, trivial, trivial, trivial, trivial, trivial⟩⟩, ⟨by omega, by omega⟩, (q + 1, x + (2 * f.1 + b.c), o' ++ [⟨x + f.1, y + M, f.1, f.2⟩]), ⟨by dsimp only; omega, by dsimp only; rw [List.length_append, List.length_singleton]; omega, ⟨by dsimp only; omega, by dsimp only; omega⟩, by dsimp only; rw [List.append_assoc]; exact hoe⟩, by dsimp only; omega, ?_⟩
                simp only [List.length_append, List.length_singleton, getD_app, leS_mk, leL_cons, leL_nil, le_junk, le_int, le_bool, le_nil, leLL_nil, leLL_cons, leH_cons, leH_nil, leH1_box, leH1_own, leH1_gone, le_vs, le_agg, le_tup, le_ptr, le_own, le_xp, le_fn, le_opt, le_val, le_elem, le_nil_own, le_nil_vs, leH_ghost, leL_chunk, leXL_id, bnd_int, bnd_bool, bnd_val, bnd_nil, bnd_junk, bnd_vs, bnd_xp, bnd_agg, bnd_tup, bnd_ptr, bnd_own, bnd_elem, bnd_fn, bnd_iface, bnd_opt, bndL_nil, bndL_cons, lenH_cons, lenH_nil, imp_self, implies_true, true_and, and_true]
                refine ⟨by omega, by simp, fun p hp => ?_⟩
                rcases Nat.lt_or_ge p o'.length with h' | h'
                · simp only [if_pos h']; exact leL_self [.int _ _, .int _ _, .int _ _, .int _ _] ⟨trivial, trivial, trivial, trivial, trivial⟩
                · obtain rfl : p = o'.length := by omega
                  simp only [if_neg (Nat.lt_irrefl o'.length), if_pos, Nat.sub_self]
                  exact leL_self [.int _ _, .int _ _, .int _ _, .int _ _] ⟨trivial, trivial, trivial, trivial, trivial⟩
              · obtain rfl : q = t := by omega
                rw [List.drop_of_length_le (by omega), rowF, List.append_nil] at hoe
                have w5 : IntKind.i64.wrap (IntKind.i64.wrap (y + IntKind.i64.wrap (2 * M)) + b.c) = y + (2 * M + b.c) := by
                  rw [mid_w (x := 2 * M) (by omega), mid_w (x := y + 2 * M) (by omega), mid_w (by omega)]; omega
                have w4 : IntKind.i64.wrap ((i : Int) + 1) = ((i + 1 : Nat) : Int) := by rw [mid_w (by omega)]; omega
                simp only [w5, w4]
                rw [List.drop_drop] at hd
                rw [placeL, ← hR, ← hM, List.drop_drop, ← List.append_assoc, ← hoe] at hTe
                refine ⟨⟨by omega, hlt⟩, (i + 1, A + q, y + (2 * M + b.c), o'), ⟨by dsimp only; omega, by dsimp only; omega, by dsimp only; omega, ⟨by dsimp only; omega, by dsimp only; omega⟩, hd, hTe⟩, by dsimp only; omega, ?_⟩
                simp only [leS_mk, leL_cons, leL_nil, le_junk, le_int, le_bool, le_nil, leLL_nil, leLL_cons, leH_cons, leH_nil, leH1_box, leH1_own, leH1_gone, le_vs, le_agg, le_tup, le_ptr, le_own, le_xp, le_fn, le_opt, le_val, le_elem, le_nil_own, le_nil_vs, leH_ghost, leL_chunk, leXL_id, bnd_int, bnd_bool, bnd_val, bnd_nil, bnd_junk, bnd_vs, bnd_xp, bnd_agg, bnd_tup, bnd_ptr, bnd_own, bnd_elem, bnd_fn, bnd_iface, bnd_opt, bndL_nil, bndL_cons, lenH_cons, lenH_nil, imp_self, implies_true, true_and, and_true] <;> simp
      · obtain rfl : i = ks.length := by omega
        rw [List.drop_of_length_le (Nat.le_refl _), placeL, List.append_nil] at hTe
        subst hTe
        refine ans_le (show k _ [] from h) ?_ ?_
        · dsimp only [lsS, expo, encS, go_sem, Option.bind, Option.map, List.append_nil, Nat.beq, List.cons_append, List.nil_append, List.append_eq, List.map_cons, List.map_nil, ite_self, reduceIte]
          simp only [leS_mk, leL_cons, leL_nil, le_junk, le_int, le_bool, le_nil, leLL_nil, leLL_cons, leH_cons, leH_nil, leH1_box, leH1_own, leH1_gone, le_vs, le_agg, le_tup, le_ptr, le_own, le_xp, le_fn, le_opt, le_val, le_elem, le_nil_own, le_nil_vs, leH_ghost, leL_chunk, leXL_id, bnd_int, bnd_bool, bnd_val, bnd_nil, bnd_junk, bnd_vs, bnd_xp, bnd_agg, bnd_tup, bnd_ptr, bnd_own, bnd_elem, bnd_fn, bnd_iface, bnd_opt, bndL_nil, bndL_cons, lenH_cons, lenH_nil, imp_self, implies_true, true_and, and_true]
        · intro _; simp [freshS, freshL, encS, lsS]
  · exact h.1.elim
end Go.Proofs.Ytojaibhjfeojjaa

/- Layouts, walked: the law of the best rows. -/
set_option linter.all false
namespace Go.Proofs.Ytojaibhjfeojjaa
open Go Go.Vx
set_option maxRecDepth 100000
set_option maxHeartbeats 4000000

def v7 : VF := { ntmps := 200, res := [.tmp 6], body :=
 (.seq (.region [⟨(some 3), none, .box, [.tm 0]⟩,
  ⟨(some 6), none, .mov, [.cn (.bool false)]⟩])
 (.seq (.seq (.region [⟨(some 16), none, .mov, [.tm 1]⟩,
  ⟨(some 17), none, .len, [.tm 16]⟩,
  ⟨(some 18), none, (.cmp .gtr), [.tm 17, .cn (.int .i64 40)]⟩,
  ⟨(some 19), none, .mov, [.tm 18]⟩,
  ⟨(some 20), (some (19, false)), .mov, [.tm 2]⟩,
  ⟨(some 21), (some (19, false)), .len, [.tm 20]⟩,
  ⟨(some 22), (some (19, false)), (.cmp .gtr), [.tm 21, .cn (.int .i64 40)]⟩,
  ⟨(some 23), none, .or, [.tm 19, .tm 22]⟩,
  ⟨(some 24), none, .mov, [.tm 23]⟩,
  ⟨(some 25), (some (24, false)), (.fieldAddr 5), [.tm 3]⟩,
  ⟨(some 26), (some (24, false)), (.load false 1), [.tm 25]⟩,
  ⟨(some 27), (some (24, false)), .len, [.tm 26]⟩,
  ⟨(some 28), (some (24, false)), (.cmp .gtr), [.tm 27, .cn (.int .i64 20)]⟩,
  ⟨(some 29), none, .or, [.tm 24, .tm 28]⟩])
 (.cond (.tm 29) (.seq (.region [⟨(some 30), none, (.call 10), []⟩,
  ⟨(some 6), none, .mov, [.tm 30]⟩])
 .ret)
  .skip))
 (.seq (.region [⟨(some 32), none, (.load true 6), [.tm 3]⟩,
  ⟨(some 33), none, .mov, [.tm 1]⟩,
  ⟨(some 34), none, (.call 11), [.tm 32, .tm 33]⟩,
  ⟨(some 31), none, .mov, [.tm 34]⟩,
  ⟨(some 35), none, (.ext 0), [.tm 31]⟩,
  ⟨(some 36), none, (.ext 1), [.tm 31]⟩,
  ⟨(some 7), none, .mov, [.tm 35]⟩,
  ⟨(some 8), none, .mov, [.tm 36]⟩])
 (.seq (.seq (.region [⟨(some 37), none, .mov, [.tm 8]⟩,
  ⟨(some 38), none, (.cmp .eql), [.tm 37, .cn (.int .i64 2)]⟩,
  ⟨(some 39), none, .mov, [.tm 38]⟩,
  ⟨(some 40), (some (39, false)), .mov, [.tm 8]⟩,
  ⟨(some 41), (some (39, false)), (.cmp .eql), [.tm 40, .cn (.int .i64 3)]⟩,
  ⟨(some 42), none, .or, [.tm 39, .tm 41]⟩])
 (.cond (.tm 42) (.seq (.region [⟨(some 43), none, .mov, [.tm 7]⟩,
  ⟨(some 44), none, .len, [.tm 43]⟩,
  ⟨(some 45), none, (.cmp .eql), [.tm 44, .cn (.int .i64 0)]⟩,
  ⟨(some 46), none, .mov, [.tm 45]⟩,
  ⟨(some 47), (some (46, true)), (.call 10), []⟩,
  ⟨(some 48), none, .and, [.tm 46, .tm 47]⟩,
  ⟨(some 6), none, .mov, [.tm 48]⟩])
 .ret)
  .skip))
 (.seq (.region [⟨(some 50), none, (.load true 6), [.tm 3]⟩,
  ⟨(some 51), none, .mov, [.tm 1]⟩,
  ⟨(some 52), none, .mov, [.tm 2]⟩,
  ⟨(some 53), none, (.call 24), [.tm 50, .tm 51, .tm 52]⟩,
  ⟨(some 49), none, .mov, [.tm 53]⟩,
  ⟨(some 54), none, (.ext 0), [.tm 49]⟩,
  ⟨(some 55), none, (.ext 1), [.tm 49]⟩,
  ⟨(some 9), none, .mov, [.tm 54]⟩,
  ⟨(some 10), none, .mov, [.tm 55]⟩])
 (.seq (.region [⟨(some 56), none, .mov, [.tm 10]⟩,
  ⟨(some 57), none, .mov, [.tm 56]⟩,
  ⟨(some 58), (some (57, true)), .mov, [.tm 9]⟩,
  ⟨(some 59), (some (57, true)), (.fieldAddr 1), [.tm 3]⟩,
  ⟨(some 60), (some (57, true)), (.load false 1), [.tm 59]⟩,
  ⟨(some 61), (some (57, true)), (.cmp .leq), [.tm 58, .tm 60]⟩,
  ⟨(some 62), none, .and, [.tm 57, .tm 61]⟩,
  ⟨(some 10), none, .mov, [.tm 62]⟩])
 (.seq (.seq (.region [⟨(some 63), none, .mov, [.tm 8]⟩,
  ⟨(some 64), none, (.cmp .neq), [.tm 63, .cn (.int .i64 0)]⟩])
 (.cond (.tm 64) (.seq (.region [⟨(some 65), none, .mov, [.tm 8]⟩,
  ⟨(some 66), none, (.cmp .eql), [.tm 65, .cn (.int .i64 4)]⟩,
  ⟨(some 67), none, .mov, [.tm 66]⟩,
  ⟨(some 68), (some (67, true)), .mov, [.tm 7]⟩,
  ⟨(some 69), (some (67, true)), .len, [.tm 68]⟩,
  ⟨(some 70), (some (67, true)), (.cmp .eql), [.tm 69, .cn (.int .i64 0)]⟩,
  ⟨(some 71), none, .and, [.tm 67, .tm 70]⟩,
  ⟨(some 72), none, .mov, [.tm 71]⟩,
  ⟨(some 73), (some (72, true)), .mov, [.tm 10]⟩,
  ⟨(some 74), (some (72, true)), .not, [.tm 73]⟩,
  ⟨(some 75), none, .and, [.tm 72, .tm 74]⟩,
  ⟨(some 76), none, .mov, [.tm 75]⟩,
  ⟨(some 77), (some (76, true)), (.call 10), []⟩,
  ⟨(some 78), none, .and, [.tm 76, .tm 77]⟩,
  ⟨(some 6), none, .mov, [.tm 78]⟩])
 .ret)
  .skip))
 (.seq (.region [⟨(some 11), none, .mov, [.cn .nil]⟩])
 (.seq (.seq (.region [⟨(some 12), none, .mov, [.cn (.int .i64 0)]⟩])
 (.block 0 (.loop (.seq (.seq (.region [⟨(some 79), none, .mov, [.tm 12]⟩,
  ⟨(some 80), none, .mov, [.tm 7]⟩,
  ⟨(some 81), none, .len, [.tm 80]⟩,
  ⟨(some 82), none, (.cmp .lss), [.tm 79, .tm 81]⟩])
 (.cond (.tm 82) .skip
  (.exit 0)))
 (.seq (.block 1 (.seq (.seq (.draw [] [⟨⟨(some 85), none, .mov, [.tm 12]⟩, []⟩,
  ⟨⟨(some 86), none, (.cmp .eql), [.tm 85, .cn (.int .i64 0)]⟩, []⟩,
  ⟨⟨(some 87), none, .mov, [.tm 86]⟩, []⟩,
  ⟨⟨(some 88), (some (87, false)), .mov, [.tm 7]⟩, []⟩,
  ⟨⟨(some 89), (some (87, false)), .mov, [.tm 12]⟩, []⟩,
  ⟨⟨(some 90), (some (87, false)), (.idxAddr 4), [.tm 88, .tm 89]⟩, []⟩,
  ⟨⟨(some 91), (some (87, false)), (.fieldAddr 1), [.tm 90]⟩, []⟩,
  ⟨⟨(some 92), (some (87, false)), (.load false 1), [.tm 91]⟩, []⟩,
  ⟨⟨(some 93), (some (87, false)), .mov, [.tm 7]⟩, []⟩,
  ⟨⟨(some 94), (some (87, false)), .mov, [.tm 12]⟩, []⟩,
  ⟨⟨(some 95), (some (87, false)), (.ari .sub), [.tm 94, .cn (.int .i64 1)]⟩, []⟩,
  ⟨⟨(some 96), (some (87, false)), (.idxAddr 4), [.tm 93, .tm 95]⟩, []⟩,
  ⟨⟨(some 97), (some (87, false)), (.fieldAddr 1), [.tm 96]⟩, []⟩,
  ⟨⟨(some 98), (some (87, false)), (.load false 1), [.tm 97]⟩, []⟩,
  ⟨⟨(some 99), (some (87, false)), (.cmp .neq), [.tm 92, .tm 98]⟩, []⟩,
  ⟨⟨(some 100), none, .or, [.tm 87, .tm 99]⟩, []⟩])
 (.cond (.tm 100) (.region [⟨(some 101), none, .mov, [.tm 11]⟩,
  ⟨(some 102), none, (.buildSlice 1 1 [(.int .i64 0)] [(0, 1)]), [.cn (.int .i64 0)]⟩,
  ⟨(some 103), none, (.append 1 8 [(.int .i64 0)]), [.tm 101, .tm 102]⟩,
  ⟨(some 11), none, .mov, [.tm 103]⟩])
  .skip))
 (.region [⟨(some 104), none, .mov, [.tm 11]⟩,
  ⟨(some 105), none, .mov, [.tm 11]⟩,
  ⟨(some 106), none, .len, [.tm 105]⟩,
  ⟨(some 107), none, (.ari .sub), [.tm 106, .cn (.int .i64 1)]⟩,
  ⟨(some 108), none, (.idxAddr 1), [.tm 104, .tm 107]⟩,
  ⟨(some 109), none, (.load false 1), [.tm 108]⟩,
  ⟨(some 110), none, (.ari .add), [.tm 109, .cn (.int .i64 1)]⟩,
  ⟨(some 111), none, (.idxAddr 1), [.tm 104, .tm 107]⟩,
  ⟨none, none, (.store 1), [.tm 111, .tm 110]⟩])))
 (.region [⟨(some 83), none, .mov, [.tm 12]⟩,
  ⟨(some 84), none, (.ari .add), [.tm 83, .cn (.int .i64 1)]⟩,
  ⟨(some 12), none, .mov, [.tm 84]⟩]))))))
 (.seq (.region [⟨(some 113), none, (.load true 6), [.tm 3]⟩,
  ⟨(some 114), none, .mov, [.tm 1]⟩,
  ⟨(some 115), none, .mov, [.tm 11]⟩,
  ⟨(some 116), none, (.call 24), [.tm 113, .tm 114, .tm 115]⟩,
  ⟨(some 112), none, .mov, [.tm 116]⟩,
  ⟨(some 117), none, (.ext 0), [.tm 112]⟩,
  ⟨(some 118), none, (.ext 1), [.tm 112]⟩,
  ⟨(some 13), none, .mov, [.tm 117]⟩,
  ⟨(some 14), none, .mov, [.tm 118]⟩])
 (.seq (.seq (.region [⟨(some 119), none, .mov, [.tm 14]⟩,
  ⟨(some 120), none, .not, [.tm 119]⟩,
  ⟨(some 121), none, .mov, [.tm 120]⟩,
  ⟨(some 122), (some (121, false)), .mov, [.tm 13]⟩,
  ⟨(some 123), (some (121, false)), (.fieldAddr 1), [.tm 3]⟩,
  ⟨(some 124), (some (121, false)), (.load false 1), [.tm 123]⟩,
  ⟨(some 125), (some (121, false)), (.cmp .gtr), [.tm 122, .tm 124]⟩,
  ⟨(some 126), none, .or, [.tm 121, .tm 125]⟩,
  ⟨(some 127), none, .mov, [.tm 126]⟩,
  ⟨(some 128), (some (127, false)), .mov, [.tm 7]⟩,
  ⟨(some 129), (some (127, false)), (.load true 6), [.tm 3]⟩,
  ⟨(some 130), (some (127, false)), .mov, [.tm 1]⟩,
  ⟨(some 131), (some (127, false)), .mov, [.tm 11]⟩,
  ⟨(some 132), (some (127, false)), (.call 25), [.tm 129, .tm 130, .tm 131]⟩,
  ⟨(some 133), (some (127, false)), (.call 13), [.tm 128, .tm 132]⟩,
  ⟨(some 134), (some (127, false)), .not, [.tm 133]⟩,
  ⟨(some 135), none, .or, [.tm 127, .tm 134]⟩,
  ⟨(some 136), none, .mov, [.tm 135]⟩,
  ⟨(some 137), (some (136, false)), (.load true 6), [.tm 3]⟩,
  ⟨(some 138), (some (136, false)), .mov, [.tm 7]⟩,
  ⟨(some 139), (some (136, false)), (.call 26), [.tm 137, .tm 138]⟩,
  ⟨(some 140), (some (136, false)), (.cmp .neq), [.tm 139, .cn (.int .i64 0)]⟩,
  ⟨(some 141), none, .or, [.tm 136, .tm 140]⟩])
 (.cond (.tm 141) (.seq (.region [⟨(some 6), none, .mov, [.cn (.bool false)]⟩])
 .ret)
  .skip))
 (.seq (.seq (.region [⟨(some 142), none, .mov, [.tm 10]⟩,
  ⟨(some 143), none, .not, [.tm 142]⟩,
  ⟨(some 144), none, .mov, [.tm 143]⟩,
  ⟨(some 145), (some (144, false)), .mov, [.tm 13]⟩,
  ⟨(some 146), (some (144, false)), .mov, [.tm 9]⟩,
  ⟨(some 147), (some (144, false)), (.cmp .lss), [.tm 145, .tm 146]⟩,
  ⟨(some 148), none, .or, [.tm 144, .tm 147]⟩,
  ⟨(some 149), none, .mov, [.tm 148]⟩,
  ⟨(some 150), (some (149, false)), .mov, [.tm 13]⟩,
  ⟨(some 151), (some (149, false)), .mov, [.tm 9]⟩,
  ⟨(some 152), (some (149, false)), (.cmp .eql), [.tm 150, .tm 151]⟩,
  ⟨(some 153), (some (149, false)), .mov, [.tm 152]⟩,
  ⟨(some 154), (some (153, true)), .mov, [.tm 11]⟩,
  ⟨(some 155), (some (153, true)), .len, [.tm 154]⟩,
  ⟨(some 156), (some (153, true)), .mov, [.tm 2]⟩,
  ⟨(some 157), (some (153, true)), .len, [.tm 156]⟩,
  ⟨(some 158), (some (153, true)), (.cmp .lss), [.tm 155, .tm 157]⟩,
  ⟨(some 159), (some (149, false)), .and, [.tm 153, .tm 158]⟩,
  ⟨(some 160), none, .or, [.tm 149, .tm 159]⟩])
 (.cond (.tm 160) (.seq (.region [⟨(some 161), none, (.call 10), []⟩,
  ⟨(some 6), none, .mov, [.tm 161]⟩])
 .ret)
  .skip))
 (.seq (.seq (.region [⟨(some 162), none, .mov, [.tm 13]⟩,
  ⟨(some 163), none, .mov, [.tm 9]⟩,
  ⟨(some 164), none, (.cmp .gtr), [.tm 162, .tm 163]⟩,
  ⟨(some 165), none, .mov, [.tm 164]⟩,
  ⟨(some 166), (some (165, false)), .mov, [.tm 11]⟩,
  ⟨(some 167), (some (165, false)), .len, [.tm 166]⟩,
  ⟨(some 168), (some (165, false)), .mov, [.tm 2]⟩,
  ⟨(some 169), (some (165, false)), .len, [.tm 168]⟩,
  ⟨(some 170), (some (165, false)), (.cmp .gtr), [.tm 167, .tm 169]⟩,
  ⟨(some 171), none, .or, [.tm 165, .tm 170]⟩])
 (.cond (.tm 171) (.seq (.region [⟨(some 6), none, .mov, [.cn (.bool false)]⟩])
 .ret)
  .skip))
 (.seq (.seq (.region [⟨(some 15), none, .mov, [.cn (.int .i64 0)]⟩])
 (.block 2 (.loop (.seq (.seq (.region [⟨(some 172), none, .mov, [.tm 15]⟩,
  ⟨(some 173), none, .mov, [.tm 11]⟩,
  ⟨(some 174), none, .len, [.tm 173]⟩,
  ⟨(some 175), none, (.cmp .lss), [.tm 172, .tm 174]⟩])
 (.cond (.tm 175) .skip
  (.exit 2)))
 (.seq (.block 3 (.seq (.draw [] [⟨⟨(some 178), none, .mov, [.tm 11]⟩, []⟩,
  ⟨⟨(some 179), none, .mov, [.tm 15]⟩, []⟩,
  ⟨⟨(some 180), none, (.idxAddr 1), [.tm 178, .tm 179]⟩, []⟩,
  ⟨⟨(some 181), none, (.load false 1), [.tm 180]⟩, []⟩,
  ⟨⟨(some 182), none, .mov, [.tm 2]⟩, []⟩,
  ⟨⟨(some 183), none, .mov, [.tm 15]⟩, []⟩,
  ⟨⟨(some 184), none, (.idxAddr 1), [.tm 182, .tm 183]⟩, []⟩,
  ⟨⟨(some 185), none, (.load false 1), [.tm 184]⟩, []⟩,
  ⟨⟨(some 186), none, (.cmp .neq), [.tm 181, .tm 185]⟩, []⟩])
 (.cond (.tm 186) (.seq (.draw [] [⟨⟨(some 187), none, .mov, [.tm 11]⟩, []⟩,
  ⟨⟨(some 188), none, .mov, [.tm 15]⟩, []⟩,
  ⟨⟨(some 189), none, (.idxAddr 1), [.tm 187, .tm 188]⟩, []⟩,
  ⟨⟨(some 190), none, (.load false 1), [.tm 189]⟩, []⟩,
  ⟨⟨(some 191), none, .mov, [.tm 2]⟩, []⟩,
  ⟨⟨(some 192), none, .mov, [.tm 15]⟩, []⟩,
  ⟨⟨(some 193), none, (.idxAddr 1), [.tm 191, .tm 192]⟩, []⟩,
  ⟨⟨(some 194), none, (.load false 1), [.tm 193]⟩, []⟩,
  ⟨⟨(some 195), none, (.cmp .lss), [.tm 190, .tm 194]⟩, []⟩,
  ⟨⟨(some 196), none, .mov, [.tm 195]⟩, []⟩,
  ⟨⟨(some 197), (some (196, true)), (.call 10), []⟩, []⟩,
  ⟨⟨(some 198), none, .and, [.tm 196, .tm 197]⟩, []⟩,
  ⟨⟨(some 6), none, .mov, [.tm 198]⟩, []⟩])
 .ret)
  .skip)))
 (.region [⟨(some 176), none, .mov, [.tm 15]⟩,
  ⟨(some 177), none, (.ari .add), [.tm 176, .cn (.int .i64 1)]⟩,
  ⟨(some 15), none, .mov, [.tm 177]⟩]))))))
 (.seq (.region [⟨(some 199), none, (.call 10), []⟩,
  ⟨(some 6), none, .mov, [.tm 199]⟩])
 .ret))))))))))))))) }
theorem v7_is : vfunc Try.prog Try.f7 = some v7 := by kernel_rfl


theorem lsP_cast {n sz : Nat} {get : Nat → List SV} {ks : List Nat} (h : lsP 1 encI n sz get ks) : lsP 1 enc1 n sz get (castL ks) := by
  obtain ⟨h1, h2, h3⟩ := h
  refine ⟨h1, by rw [cast_len]; exact h2, fun k hk => ?_⟩
  rw [cast_get _ _ (by omega)]
  exact h3 k hk
theorem inc_len : ∀ l : List Nat, (incL l).length = l.length
  | [] => rfl
  | [a] => rfl
  | a :: c :: l => by rw [incL, List.length_cons, inc_len (c :: l)]; rfl
theorem inc_get : ∀ (l : List Nat) (k : Nat), k < l.length → (incL l).getD k default = if k = l.length - 1 then l.getD k default + 1 else l.getD k default
  | [a], 0, _ => rfl
  | a :: c :: l, 0, _ => by
    rw [if_neg (by rw [List.length_cons, List.length_cons]; omega)]; rfl
  | a :: c :: l, k + 1, h => by
    have := inc_get (c :: l) k (by rw [List.length_cons] at h; omega)
    show (incL (c :: l)).getD k default = _
    rw [this]
    rw [List.length_cons (a := a)]
    by_cases hk : k = (c :: l).length - 1
    · rw [if_pos hk, if_pos (by have : 0 < (c :: l).length := by simp
                                omega)]; rfl
    · rw [if_neg hk, if_neg (by omega)]; rfl
theorem lex_at : ∀ (x y : List Nat) (i : Nat), lexLe x y → i < x.length → i < y.length → (∀ j, j < i → x.getD j default = y.getD j default) → x.getD i default ≤ y.getD i default
  | a :: x, c :: y, 0, h, _, _, _ => by
    show a ≤ c
    rcases h with h | ⟨h, _⟩ <;> omega
  | a :: x, c :: y, i + 1, h, h1, h2, h3 => by
    have h0 : a = c := h3 0 (by omega)
    rcases h with h | ⟨_, h⟩
    · omega
    · exact lex_at x y i h (by rw [List.length_cons] at h1; omega) (by rw [List.length_cons] at h2; omega) fun j hj => h3 (j + 1) (by omega)

theorem ask_dom (b : Brd) (l : List Ft) : askF b l = 0 ∨ askF b l = 2 ∨ askF b l = 3 := by
  unfold askF
  split
  · exact .inr (.inr rfl)
  · split
    · exact .inr (.inl rfl)
    · exact .inl rfl
theorem ask_wrong {b : Brd} {l : List Ft} (h : askF b l = 0) : wrongF b = false := by
  unfold askF at h
  split at h
  · cases h
  · split at h
    · cases h
    · rename_i h1 h2
      rw [Bool.not_eq_true, Bool.or_eq_false_iff] at h2
      exact h2.1
theorem rows_bad {b : Brd} {l : List Ft} (h : (rowsR b l).2 = 2 ∨ (rowsR b l).2 = 3) : (rowsR b l).1 = [] := by
  unfold rowsR at *
  split
  · rfl
  · rename_i h1
    rw [if_neg h1] at h
    split
    · rfl
    · rename_i h2
      rw [if_neg h2] at h
      rcases h with h | h <;> cases h
theorem rows_good {b : Brd} {l : List Ft} (h : ¬ ((rowsR b l).2 = 2 ∨ (rowsR b l).2 = 3)) : askF b l = 0 ∧ rowsR b l = if (headP b l).is = false ∨ b.d < (headP b l).depth then ([], 4) else (placeL b (divL b l) l 0, 0) := by
  have hd := ask_dom b l
  unfold rowsR at *
  split at h
  · rename_i h1
    exact absurd (hd.resolve_left h1) h
  · rename_i h1
    rw [if_neg h1]
    exact ⟨by omega, rfl⟩
/-- A division that is deep enough tells of the plans. -/
theorem dep_plan {b : Brd} (hb : okB b) {l : List Ft} (hl : ∀ f ∈ l, okF f) (hlen : l.length ≤ 200) {m : List Int} (h : (depF b l m 0 true).2 = true) :
    ∃ ms : List Nat, m = castL ms ∧ (headP b l).is = true ∧ ((headP b l).depth < (depF b l m 0 true).1 ∨ (headP b l).depth = (depF b l m 0 true).1 ∧ ((headP b l).rows < ms.length ∨ (headP b l).rows = ms.length ∧ lexLe (divL b l) ms)) := by
  obtain ⟨ms, hm, hdv, hd⟩ := depF_of m l 0 true h
  obtain ⟨h1, h2⟩ := div_best hb.2.2.1 ms l hlen hl hdv
  refine ⟨ms, hm, h1, ?_⟩
  simp only [if_true] at hd
  have e : (depF b l m 0 true).1 = dvD b l ms := by omega
  rw [e]
  exact h2

def shI1 : List Sh := [.int .i64]
theorem i_of {c : List SV} (h : okSL shI1 c) : ∃ p : Int, c = enc1 p := by
  obtain ⟨_, _, rfl, ⟨n1, rfl, _⟩, e1⟩ := okSL_cons_inv h
  cases okSL_nil_inv e1
  exact ⟨n1, rfl⟩
def L6 : Env := { ct := fun n => match n with | 10 => some trueC | 11 => some rowC | 24 => some dpC | 25 => some plcC | 26 => some ckC | 13 => some samSC | _ => none, fn := fun _ => none, meth := fun _ _ => none }
theorem L6_ct10 : L6.ct 10 = some trueC := rfl
theorem L6_ct11 : L6.ct 11 = some rowC := rfl
theorem L6_ct24 : L6.ct 24 = some dpC := rfl
theorem L6_ct25 : L6.ct 25 = some plcC := rfl
theorem L6_ct26 : L6.ct 26 = some ckC := rfl
theorem L6_ct13 : L6.ct 13 = some samSC := rfl
theorem L6_ok : EnvOk Try.prog L6 := by
  refine ⟨fun f c h => ?_, fun f vf h => ?_, (fun _ _ _ h => by cases h), by kernel_rfl⟩
  · simp only [L6] at h
    split at h
    · cases h; exact ⟨awake_ok, Try.f10, Try.func10, by kernel_rfl, by kernel_rfl⟩
    · cases h; exact ⟨row_ok, Try.f11, Try.func11, by kernel_rfl, by kernel_rfl⟩
    · cases h; exact ⟨rdp_ok, Try.f24, Try.func24, by kernel_rfl, by kernel_rfl⟩
    · cases h; exact ⟨rplc_ok, Try.f25, Try.func25, by kernel_rfl, by kernel_rfl⟩
    · cases h; exact ⟨ck_ok, Try.f26, Try.func26, by kernel_rfl, by kernel_rfl⟩
    · cases h; exact ⟨samS_ok, Try.f13, Try.func13, by kernel_rfl, by kernel_rfl⟩
    · cases h
  · cases h

def lawL : List PSh := [⟨true, shB⟩, ⟨false, [.slice shT]⟩, ⟨false, [.slice shI1]⟩]
theorem lawLeast : (lawC lawL).ok Try.prog 7 := by
  refine contract Try.func7 v7_is L6_ok 400 (lawC lawL) fun args k h => ?_
  obtain ⟨ha, hk⟩ := h
  obtain ⟨_, _, rfl, h1, e1⟩ := okPL_cons_inv ha
  obtain ⟨cs, rfl, hcs⟩ := okP_agg_inv h1
  obtain ⟨v, _, rfl, h2, e2⟩ := okPL_cons_inv e1
  obtain ⟨u, _, rfl, h3, e3⟩ := okPL_cons_inv e2
  cases okPL_nil_inv e3
  obtain ⟨z, b, hbl, hbe⟩ := b_of hcs
  obtain ⟨z', l, hll, hle⟩ := list_of (fun _ => t_of) (okP_one_inv h2)
  obtain ⟨z'', m, hml, hme⟩ := list_of (fun _ => i_of) (okP_one_inv h3)
  rw [maxLen_eq] at hbl hll hml
  refine ⟨[.agg (encB false z b), .vs false z' l.length 2 (fun k => encT (l.getD k default)), .vs false z'' m.length 1 (fun k => enc1 (m.getD k default))], ⟨leXL_le _ _ hbe (by simp [encB, bndL, bnd]), leX_le _ _ hle trivial, leX_le _ _ hme trivial, trivial⟩, ?_⟩
  dsimp only [v7, L6_ct10, L6_ct11, L6_ct24, L6_ct25, L6_ct26, L6_ct13, trueC, rowC, dpC, plcC, ckC, samSC, samC, lsS, encB, encT, enc1, go_sem, Option.bind, Option.map, List.append_nil, Nat.beq, List.cons_append, List.nil_append, List.append_eq, List.map_cons, List.map_nil, ite_self, reduceIte]
  simp only [true_and, and_true, imp_self, implies_true, decide_eq_true_eq, decide_eq_false_iff_not, Nat.reduceAdd, Nat.reduceLeDiff, Bool.not_not, reduceCtorEq, false_imp_iff, Bool.not_eq_true', Bool.not_eq_false', Bool.false_eq_true, and_self, forall_const, ne_eq, not_false_eq_true, Nat.reduceEqDiff]
  have hk' : k (.bool true) [] := hk
  refine ⟨fun _ => ans_bool hk', fun hf => ?_⟩
  have hf : l.length ≤ 40 ∧ m.length ≤ 40 ∧ b.wk.length ≤ 20 := by
    simp only [Bool.or_eq_false_iff, decide_eq_false_iff_not] at hf
    omega
  obtain ⟨hl40, hm40, hw20⟩ := hf
  refine ⟨b, l, ⟨brdP_self b, lsP_self, by omega⟩, by decide, by decide, fun hc => ?_, fun hc => ?_⟩
  · rw [rows_bad (by simpa using hc)]; exact ans_bool hk'
  · rw [Bool.or_eq_false_iff, decide_eq_false_iff_not, decide_eq_false_iff_not] at hc
    obtain ⟨hask, hR⟩ := rows_good (b := b) (l := l) (by omega)
    obtain ⟨hb, hl, hlen⟩ := askF_ok hask
    refine ⟨b, l, m, ⟨brdP_self b, lsP_self, lsP_self, hb, hl, hlen, by omega⟩, by decide, by decide, fun hne => ?_, fun h0 => ?_⟩
    · have hno : (headP b l).is = false ∨ b.d < (headP b l).depth := by
        rcases Classical.em ((headP b l).is = false ∨ b.d < (headP b l).depth) with hh | hh
        · exact hh
        · rw [hR, if_neg hh] at hne; exact absurd rfl hne
      rw [hR, if_pos hno]
      have hdp : ((depF b l m 0 true).2 && decide ((depF b l m 0 true).1 ≤ b.d)) = false := by
        rw [← Bool.not_eq_true, Bool.and_eq_true, decide_eq_true_eq]
        rintro ⟨q1, q2⟩
        obtain ⟨ms, _, r1, r2⟩ := dep_plan hb hl hlen q1
        rw [r1] at hno
        rcases hno with hno | hno
        · cases hno
        · omega
      rw [hdp]; exact ans_bool hk'
    · have hyes : (headP b l).is = true ∧ ¬ b.d < (headP b l).depth := by
        rcases Classical.em ((headP b l).is = false ∨ b.d < (headP b l).depth) with hh | hh
        · rw [hR, if_pos hh] at h0; cases h0
        · refine ⟨?_, fun h => hh (.inr h)⟩
          cases hx : (headP b l).is with
          | true => rfl
          | false => exact absurd (.inl hx) hh
      have eR : rowsR b l = (placeL b (divL b l) l 0, 0) := by
        rw [hR, if_neg]
        rw [hyes.1]
        rintro (hh | hh)
        · cases hh
        · exact hyes.2 hh
      rw [eR]
      obtain ⟨hdv, hdD, hdl⟩ := div_is hb.2.2.1 _ l rfl hlen hl hyes.1
      have hbest := fun h => dep_plan hb hl hlen (m := m) h
      obtain ⟨ks, hks⟩ : ∃ ks, ks = divL b l := ⟨_, rfl⟩
      rw [← hks] at hdv hdD hdl hbest
      rw [← hks]
      have hl1 : ∀ f ∈ l, 1 ≤ f.1 := fun f hf => (hl f hf).1.1
      have hXl := place_len ks l 0 hdv
      have hrows := rowsH_place hb.2.2.1.1 ks l 0 none [] hl1 hdv (fun v hv => by cases hv)
      rw [List.nil_append] at hrows
      have hkl := dv_len ks l hdv
      obtain ⟨X, hX⟩ : ∃ X, X = placeL b ks l 0 := ⟨_, rfl⟩
      rw [← hX] at hXl hrows
      rw [← hX]
      refine Loop.keep [1, 0, 0, 3, 1, 0] (Nat × List Nat) (fun x => [(11, .own 1 0 x.2.length 1), (12, .int .i64 x.1)]) (fun x => [(1, .own (decide (x.2.length = 0)) 1 x.2.length (fun k => encI (x.2.getD k default)))]) [.gone] (fun x => x.1 ≤ X.length ∧ x.2.length ≤ x.1 ∧ (∀ k, k < x.2.length → x.2.getD k default ≤ x.1) ∧ (0 < x.1 → 0 < x.2.length) ∧ rowsH (if x.1 = 0 then none else some (X.getD (x.1 - 1) default).y) x.2 (X.drop x.1) = ks) (fun x => X.length - x.1) ?_ ?_
      · refine ⟨(0, []), ⟨Nat.zero_le _, Nat.zero_le _, fun k hk => absurd hk (Nat.not_lt_zero _), fun h => absurd h (Nat.lt_irrefl _), hrows⟩, ?_⟩
        dsimp only [encI, go_sem, Option.bind, Option.map, List.append_nil, Nat.beq, List.cons_append, List.nil_append, List.append_eq, List.map_cons, List.map_nil, ite_self, reduceIte]
        simp only [leH_ghost, leS_mk, leL_cons, leL_nil, le_junk, le_int, le_bool, le_nil, leLL_nil, leLL_cons, leH_cons, leH_nil, leH1_box, leH1_own, leH1_gone, le_vs, le_agg, le_tup, le_ptr, le_own, le_xp, le_fn, le_opt, le_val, le_elem, le_nil_own, le_nil_vs, leH_ghost, leL_chunk, leXL_id, bnd_int, bnd_bool, bnd_val, bnd_nil, bnd_junk, bnd_vs, bnd_xp, bnd_agg, bnd_tup, bnd_ptr, bnd_own, bnd_elem, bnd_fn, bnd_iface, bnd_opt, bndL_nil, bndL_cons, lenH_cons, lenH_nil, imp_self, implies_true, true_and, and_true] <;> simp
      · rintro ⟨i, acc⟩ ⟨hi, hal, hav, han, hr⟩
        dsimp only at hi hal hav han hr
        dsimp only [L6_ct10, L6_ct24, L6_ct25, L6_ct26, L6_ct13, trueC, dpC, plcC, ckC, samSC, samC, lsS, encB, encS, encT, enc1, encI, Int.toNat_natCast, go_sem, Option.bind, Option.map, List.append_nil, Nat.beq, List.cons_append, List.nil_append, List.append_eq, List.map_cons, List.map_nil, ite_self, reduceIte]
        simp only [true_and, and_true, imp_self, implies_true, decide_eq_true_eq, decide_eq_false_iff_not, Nat.reduceAdd, Nat.reduceLeDiff, Bool.not_not, reduceCtorEq, false_imp_iff, Bool.not_eq_true', Bool.not_eq_false', Bool.false_eq_true, and_self, forall_const, ne_eq, not_false_eq_true, Nat.reduceEqDiff]
        refine ⟨fun hlt => ?_, fun hge => ?_⟩
        · have hlt' : i < X.length := by omega
          have wi : ∀ h : ¬ (i : Int) = 0, IntKind.i64.wrap ((i : Int) - 1) = ((i - 1 : Nat) : Int) := fun h => by rw [mid_w (by omega)]; omega
          have w1 : IntKind.i64.wrap ((acc.length + 1 : Nat) - 1 : Int) = (acc.length : Int) := by rw [mid_w (by omega)]; omega
          rw [drop_cons' hlt', rowsH] at hr
          refine ⟨fun h => ⟨by omega, hlt⟩, fun h => ⟨by rw [wi h]; omega, by rw [wi h]; omega⟩, fun hn => ?_, fun hn => ?_⟩
          · simp only [w1, Int.toNat_natCast, Nat.lt_irrefl, if_false, Nat.sub_self, Nat.zero_mul]
            dsimp only [go_sem, Option.bind, Option.map, List.append_nil, Nat.beq, List.cons_append, List.nil_append, List.append_eq, List.map_cons, List.map_nil, ite_self, reduceIte]
            simp only [true_and, and_true, imp_self, implies_true, decide_eq_true_eq, decide_eq_false_iff_not, Nat.reduceAdd, Nat.reduceLeDiff, Bool.not_not, reduceCtorEq, false_imp_iff, Bool.not_eq_true', Bool.not_eq_false', Bool.false_eq_true, and_self, forall_const, ne_eq, not_false_eq_true, Nat.reduceEqDiff]
            have hcond : ¬ (if i = 0 then none else some (X.getD (i - 1) default).y) = some (X.getD i default).y := by
              rw [Bool.or_eq_true, Bool.not_eq_true', decide_eq_false_iff_not, decide_eq_true_eq] at hn
              by_cases h0 : i = 0
              · rw [if_pos h0]; intro hh; cases hh
              · rw [if_neg h0]
                intro hh
                injection hh with hh
                rcases hn with hn | hn
                · omega
                · rw [wi (by omega), Int.toNat_natCast] at hn
                  exact hn hh.symm
            rw [if_neg hcond, incL_app] at hr
            refine ⟨by decide, ⟨by unfold capOk; omega, fun p hp => match p, hp with | 0, _ => ⟨rfl, trivial, trivial⟩⟩, ⟨by omega, by omega⟩, by omega, ⟨by omega, by omega⟩, by omega, (i + 1, acc ++ [0 + 1]), ⟨by dsimp only; omega, by dsimp only; rw [List.length_append, List.length_singleton]; omega, fun k hk => ?_, fun _ => by simp, ?_⟩, by dsimp only; omega, ?_⟩
            · dsimp only at hk ⊢
              rw [getD_app]
              split
              · rename_i hka; have := hav k hka; omega
              · split
                · omega
                · exact Nat.zero_le _
            · dsimp only
              rw [if_neg (by omega), Nat.add_sub_cancel]; exact hr
            · simp only [List.length_append, List.length_singleton, getD_app, w_succ (i := i) (n := X.length) (by omega) (by omega), leS_mk, leL_cons, leL_nil, le_junk, le_int, le_bool, le_nil, leLL_nil, leLL_cons, leH_cons, leH_nil, leH1_box, leH1_own, leH1_gone, le_vs, le_agg, le_tup, le_ptr, le_own, le_xp, le_fn, le_opt, le_val, le_elem, le_nil_own, le_nil_vs, leH_ghost, leL_chunk, leXL_id, bnd_int, bnd_bool, bnd_val, bnd_nil, bnd_junk, bnd_vs, bnd_xp, bnd_agg, bnd_tup, bnd_ptr, bnd_own, bnd_elem, bnd_fn, bnd_iface, bnd_opt, bndL_nil, bndL_cons, lenH_cons, lenH_nil, imp_self, implies_true, true_and, and_true]
              refine ⟨by omega, by simp, fun p hp => ?_⟩
              rcases Nat.lt_or_ge p acc.length with h' | h'
              · simp only [Int.toNat_natCast, if_neg (show ¬ p = acc.length by omega), if_pos h']
                exact leL_self [.int _ _] ⟨trivial, trivial⟩
              · obtain rfl : p = acc.length := by omega
                simp only [Int.toNat_natCast, Nat.lt_irrefl, if_false, if_true, Nat.sub_self, Nat.zero_mul]
                exact leL_self [.int .i64 1] ⟨trivial, trivial⟩
          · have hcond : (if i = 0 then none else some (X.getD (i - 1) default).y) = some (X.getD i default).y := by
              rw [Bool.or_eq_false_iff, Bool.not_eq_false', decide_eq_false_iff_not, decide_eq_true_eq] at hn
              rw [if_neg (by omega)]
              rw [wi hn.1, Int.toNat_natCast] at hn
              rw [hn.2]
            have hi0 : 0 < i := by
              by_cases h0 : i = 0
              · rw [if_pos h0] at hcond; cases hcond
              · omega
            rw [if_pos hcond] at hr
            have h1 := han hi0
            have w2 : IntKind.i64.wrap ((acc.length : Int) - 1) = ((acc.length - 1 : Nat) : Int) := by rw [mid_w (by omega)]; omega
            have hlast := hav (acc.length - 1) (by omega)
            have w3 : IntKind.i64.wrap (((acc.getD (acc.length - 1) default : Nat) : Int) + 1) = ((acc.getD (acc.length - 1) default + 1 : Nat) : Int) := by rw [mid_w (by omega)]; omega
            simp only [w2, Int.toNat_natCast, w3]
            refine ⟨⟨by omega, by omega⟩, by omega, ⟨by omega, by omega⟩, by omega, (i + 1, incL acc), ⟨by dsimp only; omega, by dsimp only; rw [inc_len]; omega, fun k hk => ?_, fun _ => by dsimp only; rw [inc_len]; omega, ?_⟩, by dsimp only; omega, ?_⟩
            · dsimp only at hk ⊢
              rw [inc_len] at hk
              rw [inc_get _ _ hk]
              have := hav k hk
              split <;> omega
            · dsimp only
              rw [if_neg (by omega), Nat.add_sub_cancel]; exact hr
            · simp only [inc_len, w_succ (i := i) (n := X.length) (by omega) (by omega), leS_mk, leL_cons, leL_nil, le_junk, le_int, le_bool, le_nil, leLL_nil, leLL_cons, leH_cons, leH_nil, leH1_box, leH1_own, leH1_gone, le_vs, le_agg, le_tup, le_ptr, le_own, le_xp, le_fn, le_opt, le_val, le_elem, le_nil_own, le_nil_vs, leH_ghost, leL_chunk, leXL_id, bnd_int, bnd_bool, bnd_val, bnd_nil, bnd_junk, bnd_vs, bnd_xp, bnd_agg, bnd_tup, bnd_ptr, bnd_own, bnd_elem, bnd_fn, bnd_iface, bnd_opt, bndL_nil, bndL_cons, lenH_cons, lenH_nil, imp_self, implies_true, true_and, and_true]
              refine ⟨by omega, fun p hp => ?_⟩
              rw [inc_get _ _ hp]
              by_cases hpe : p = acc.length - 1
              · subst hpe
                rw [if_pos rfl, if_pos rfl]
                exact leL_self [.int _ _] ⟨trivial, trivial⟩
              · rw [if_neg hpe, if_neg hpe]
                exact leL_self [.int _ _] ⟨trivial, trivial⟩
        · obtain rfl : i = X.length := by omega
          rw [List.drop_of_length_le (Nat.le_refl _)] at hr
          have hr : acc = ks := hr
          subst hr
          have hD : depF b l (castL acc) 0 true = ((headP b l).depth, true) := by
            rw [depF_is acc l 0 true hdv, ← hdD]
            simp
          have hchk : checkF b X = 0 := by
            rw [hX]
            exact place_check hb (ask_wrong hask) hl hlen hdv (by rw [hdD]; omega)
          refine ⟨b, l, castL acc, ⟨brdP_self b, lsP_self, lsP_cast lsP_self, hb, hl, hlen, by rw [cast_len]; omega⟩, by decide, by decide, b, l, acc, fun _ => ⟨brdP_self b, lsP_self, lsP_cast lsP_self, hb, hl, hlen, hdv⟩, X, X, fun _ => ⟨lsP_self, by rw [← hX]; exact lsP_self, by omega⟩, b, X, fun _ => ⟨brdP_self b, lsP_self⟩, fun hx => ?_, fun hx => ?_⟩
          · rw [hD, hchk, decide_eq_false hyes.2] at hx
            simp at hx
          · clear hx
            rw [hD]
            obtain ⟨dm, hdm⟩ : ∃ dm, dm = depF b l m 0 true := ⟨_, rfl⟩
            rw [← hdm] at hbest ⊢
            dsimp only
            refine ⟨fun h1 h2 => ?_, fun _ => ans_bool hk', fun hx => ?_⟩
            · rw [h1, decide_eq_true h2]; rfl
            · rw [Bool.or_eq_false_iff, Bool.or_eq_false_iff, Bool.not_eq_false', Bool.and_eq_true, decide_eq_true_eq, decide_eq_false_iff_not, Bool.and_eq_false_iff, decide_eq_false_iff_not, decide_eq_false_iff_not] at hx
              obtain ⟨⟨⟨hi1, hi2⟩, h1⟩, h2⟩ := hx
              obtain ⟨ms, hm, _, hb2⟩ := hbest hi1
              subst hm
              rw [cast_len] at h2
              have hall : (headP b l).depth = dm.1 ∧ acc.length = ms.length ∧ lexLe acc ms := by
                rcases hb2 with hb2 | ⟨hb2, hb3 | ⟨hb3, hb4⟩⟩
                · omega
                · omega
                · exact ⟨hb2, by omega, hb4⟩
              rw [cast_len]
              refine ⟨fun hx => ?_, fun _ => ?_⟩
              · rw [Bool.or_eq_true, decide_eq_true_eq, decide_eq_true_eq] at hx
                omega
              · refine Loop.keep [2, 8] Nat (fun i => [(15, .int .i64 i)]) (fun _ => []) [] (fun i => i ≤ acc.length ∧ ∀ j, j < i → acc.getD j default = ms.getD j default) (fun i => acc.length - i) ?_ ?_
                · refine ⟨0, ⟨Nat.zero_le _, fun j h => by omega⟩, ?_⟩
                  dsimp only [go_sem, Option.bind, Option.map, List.append_nil, Nat.beq, List.cons_append, List.nil_append, List.append_eq, List.map_cons, List.map_nil, ite_self, reduceIte]
                  simp only [leS_mk, leL_cons, leL_nil, le_junk, le_int, le_bool, le_nil, leLL_nil, leLL_cons, leH_cons, leH_nil, leH1_box, leH1_own, leH1_gone, le_vs, le_agg, le_tup, le_ptr, le_own, le_xp, le_fn, le_opt, le_val, le_elem, le_nil_own, le_nil_vs, leH_ghost, leL_chunk, leXL_id, bnd_int, bnd_bool, bnd_val, bnd_nil, bnd_junk, bnd_vs, bnd_xp, bnd_agg, bnd_tup, bnd_ptr, bnd_own, bnd_elem, bnd_fn, bnd_iface, bnd_opt, bndL_nil, bndL_cons, lenH_cons, lenH_nil, imp_self, implies_true, true_and, and_true] <;> simp
                · rintro i ⟨hi, heq⟩
                  dsimp only [L6_ct10, trueC, enc1, Int.toNat_natCast, go_sem, Option.bind, Option.map, List.append_nil, Nat.beq, List.cons_append, List.nil_append, List.append_eq, List.map_cons, List.map_nil, ite_self, reduceIte]
                  simp only [true_and, and_true, imp_self, implies_true, decide_eq_true_eq, decide_eq_false_iff_not, Nat.reduceAdd, Nat.reduceLeDiff, Bool.not_not, reduceCtorEq, false_imp_iff, Bool.not_eq_true', Bool.not_eq_false', Bool.false_eq_true, and_self, forall_const, ne_eq, not_false_eq_true, Nat.reduceEqDiff]
                  refine ⟨fun hlt => ?_, fun hge => ans_bool hk'⟩
                  have hcg := cast_get ms i (by omega)
                  have hx := lex_at acc ms i hall.2.2 (by omega) (by omega) heq
                  simp only [hcg]
                  refine ⟨⟨by omega, hlt⟩, by omega, ⟨by omega, by omega⟩, fun hne => ⟨⟨by omega, hlt⟩, by omega, ⟨by omega, by omega⟩, ?_⟩, fun he => ⟨i + 1, ⟨by omega, fun j hj => ?_⟩, by omega, ?_⟩⟩
                  · rw [decide_eq_true (by omega)]
                    exact ans_bool hk'
                  · rcases Nat.lt_or_ge j i with h' | h'
                    · exact heq j h'
                    · obtain rfl : j = i := by omega
                      omega
                  · simp only [w_succ (i := i) (n := acc.length) (by omega) (by omega), leS_mk, leL_cons, leL_nil, le_junk, le_int, le_bool, le_nil, leLL_nil, leLL_cons, leH_cons, leH_nil, leH1_box, leH1_own, leH1_gone, le_vs, le_agg, le_tup, le_ptr, le_own, le_xp, le_fn, le_opt, le_val, le_elem, le_nil_own, le_nil_vs, leH_ghost, leL_chunk, leXL_id, bnd_int, bnd_bool, bnd_val, bnd_nil, bnd_junk, bnd_vs, bnd_xp, bnd_agg, bnd_tup, bnd_ptr, bnd_own, bnd_elem, bnd_fn, bnd_iface, bnd_opt, bndL_nil, bndL_cons, lenH_cons, lenH_nil, imp_self, implies_true, true_and, and_true] <;> simp
end Go.Proofs.Ytojaibhjfeojjaa

/- Laws of layout, as they are given, without a condition: the best rows. -/
set_option linter.all false
namespace Go.Proofs.Ytojaibhjfeojjaa
open Go Go.Vx Go.RowKit
set_option maxRecDepth 100000

theorem own11 : ownKnob Try.prog.godebug = none := by kernel_rfl
theorem laid11 : laidOutB Try.prog = true := by kernel_rfl

theorem layoutLeast_lifted (os : Os) (started : os.Started) (H : Type) (enc : TypeId × Value → H) :
    ReturnsInHanded {} Try.checked os 7 .any (Rows.layoutLeastSpec.pre6 enc Try.prog Try.f7 Rows.layoutLeastRow.domain false) (Rows.layoutLeastSpec.post enc Try.prog Try.f7 false true false false) :=
  law_lifted (C := Try.checked) (tb := 4) own11 started (by kernel_rfl) Try.func7 laid11
    (ChangeSpec.witness6 (enc := enc) (C := Try.checked) false ⟨#[], #[.agg #[.int .i64 0, .int .i64 0, .int .i64 0, .int .i64 0, .int .i64 0, .slice none 0 0], .slice none 0 0, .slice none 0 0], []⟩ 8 (by kernel_rfl) (by kernel_rfl) (by kernel_rfl) (by kernel_rfl))
    (by kernel_rfl) (by kernel_rfl) (by kernel_rfl) (by kernel_rfl) rfl (fun ds h => match ds, h with | [_, _, _], _ => ⟨rfl, rfl, rfl⟩) lawLeast

theorem layoutLeast_holds : Rows.LayoutLeastSaid :=
  OpenClaim.holds_of_wide 7 Try.f7 rfl rfl rfl rfl rfl rfl rfl ⟨rfl, rfl, rfl, rfl, rfl⟩ rfl rfl rfl rfl rfl (by kernel_rfl) Try.func7 (by kernel_rfl)
    (of_decide_eq_true (by kernel_rfl)) (by unfold Func.isWrapper; first | (rw [if_pos (by decide +kernel)]; kernel_rfl) | (rw [if_neg (by decide +kernel)]; exact ⟨rfl, rfl⟩))
    (fun os started H enc _ => layoutLeast_lifted os started H enc)

end Go.Proofs.Ytojaibhjfeojjaa

