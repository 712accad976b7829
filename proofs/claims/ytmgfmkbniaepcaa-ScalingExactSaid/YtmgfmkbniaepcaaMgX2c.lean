/- Regions that draw their order: the check of a canonical order, by masks. -/
import Derived.Test.YtmgfmkbniaepcaaMgX2b
import Derived.MapKept
import Derived.WideKeyRuns
import Derived.ProofKit
import Derived.Deep.Slices
import Derived.IntWalk
set_option linter.all false
namespace Go.Vx
section
variable {md : Region.Mode} {ops : Array Oper}
theorem testBit_pow {i k : Nat} : (2 ^ i).testBit k = decide (i = k) := Nat.testBit_two_pow
theorem maskL_spec {i : Nat} : ∀ {l : List Edge}, (maskL md l).testBit i = true ↔ ∃ e ∈ l, Region.binds md e = true ∧ e.on = i
  | [] => by simp [maskL]
  | e :: l => by
    unfold maskL
    cases hb : Region.binds md e with
    | false => simp [maskL_spec (l := l), hb]
    | true => simp [maskL_spec (l := l), hb, Nat.testBit_or, testBit_pow]
theorem directs_at {i : Nat} {o : Oper} (h : ops[i]? = some o) : (directs md ops).getD i 0 = maskL md o.after.toList := by
  simp [directs, h]
theorem orBelow_spec {cl : List Nat} {m i : Nat} : ∀ {j : Nat}, (orBelow cl m j).testBit i = true → ∃ k, k < j ∧ m.testBit k = true ∧ (cl.getD k 0).testBit i = true
  | 0, h => by simp [orBelow] at h
  | j + 1, h => by
    unfold orBelow at h
    cases hb : m.testBit j with
    | false =>
      rw [hb] at h
      obtain ⟨k, h1, h2⟩ := orBelow_spec (j := j) h
      exact ⟨k, by omega, h2⟩
    | true =>
      rw [hb] at h
      simp only [cond_true, Nat.testBit_or, Bool.or_eq_true] at h
      rcases h with h | h
      · exact ⟨j, by omega, hb, h⟩
      · obtain ⟨k, h1, h2⟩ := orBelow_spec (j := j) h
        exact ⟨k, by omega, h2⟩
theorem closOk_at {dm cl : List Nat} : ∀ {n : Nat}, closOk dm cl n = true → ∀ j, j < n → cl.getD j 0 = dm.getD j 0 ||| orBelow cl (dm.getD j 0) j
  | n + 1, h, j, hj => by
    simp only [closOk, Bool.and_eq_true] at h
    rcases Nat.lt_or_ge j n with h' | h'
    · exact closOk_at h.2 j h'
    · obtain rfl : j = n := by omega
      exact Nat.eq_of_beq_eq_true h.1
theorem clo_ok {cl : List Nat} (hl : cl.length = ops.size) (h : closOk (directs md ops) cl ops.size = true) : CloOk md ops (cloOf cl) := by
  have small : ∀ (j i : Nat), cloOf cl j i = true → j < ops.size := by
    intro j i hc
    rcases Nat.lt_or_ge j ops.size with h' | h'
    · exact h'
    · simp [cloOf, List.getD_eq_getElem?_getD, List.getElem?_eq_none (show cl.length ≤ j by omega)] at hc
  have main : ∀ (L : Array Bool), Down md ops L → ∀ (N j i : Nat), j < N → (∀ (o : Oper), ops[j]? = some o → ∀ e ∈ o.after, Region.binds md e = true → L.getD e.on false = true) → cloOf cl j i = true → L.getD i false = true := by
    intro L hd N
    induction N with
    | zero => intro j i hj; omega
    | succ N ih =>
      intro j i hj hs hc
      have hjn := small j i hc
      have ho : ops[j]? = some ops[j] := Array.getElem?_eq_getElem hjn
      unfold cloOf at hc
      rw [closOk_at h j hjn, Nat.testBit_or, Bool.or_eq_true] at hc
      have hdir : ∀ k, ((directs md ops).getD j 0).testBit k = true → L.getD k false = true := by
        intro k hk
        rw [directs_at ho] at hk
        obtain ⟨e, he, hb, rfl⟩ := maskL_spec.1 hk
        exact hs _ ho e (by simpa using he) hb
      rcases hc with hc | hc
      · exact hdir i hc
      · obtain ⟨k, h1, h2, h3⟩ := orBelow_spec hc
        exact ih k i (by omega) (fun o hok e he hb => hd.2 k o hok (hdir k h2) e he hb) h3
  refine ⟨fun L j i hd hr hc => ?_, fun L j i hd hl hc => ?_⟩
  · obtain ⟨_, o, ho, hall⟩ := mem_ready.1 hr
    exact main L hd (j + 1) j i (by omega) (fun o' ho' e he hb => by rw [ho] at ho'; cases ho'; exact hall e he hb) hc
  · exact main L hd (j + 1) j i (by omega) (fun o ho e he hb => hd.2 j o ho hl e he hb) hc
def Corr (ops : Array Oper) (L : Array Bool) (m : Nat) : Prop := L.size = ops.size ∧ ∀ i, L.getD i false = m.testBit i
theorem and_eq_left {a m : Nat} : (a &&& m) = a ↔ ∀ k, a.testBit k = true → m.testBit k = true := by
  constructor
  · intro h k hk
    have : (a &&& m).testBit k = true := by rw [h]; exact hk
    rw [Nat.testBit_and, Bool.and_eq_true] at this
    exact this.2
  · intro h
    apply Nat.eq_of_testBit_eq
    intro k
    rw [Nat.testBit_and]
    cases hk : a.testBit k with
    | false => rfl
    | true => rw [h k hk]; rfl
theorem ready_iff {L : Array Bool} {m i : Nat} (hc : Corr ops L m) : i ∈ Region.ready md ops L ↔ i < ops.size ∧ readyB (directs md ops) m i = true := by
  rw [mem_ready]
  constructor
  · rintro ⟨h0, o, ho, hall⟩
    have hi : i < ops.size := (Array.getElem?_eq_some_iff.1 ho).1
    refine ⟨hi, ?_⟩
    simp only [readyB, Bool.and_eq_true, Bool.not_eq_true']
    have hL : i < L.size := by rw [hc.1]; exact hi
    refine ⟨?_, ?_⟩
    · rw [← hc.2 i]; simp [hL] at h0 ⊢; exact h0
    · rw [directs_at ho]
      rw [and_eq_left.2 (fun k hk => ?_)]
      · exact Nat.beq_refl _
      · obtain ⟨e, he, hb, rfl⟩ := maskL_spec.1 hk
        rw [← hc.2]; exact hall e (by simpa using he) hb
  · rintro ⟨hi, hr⟩
    simp only [readyB, Bool.and_eq_true, Bool.not_eq_true'] at hr
    have ho : ops[i]? = some ops[i] := Array.getElem?_eq_getElem hi
    have hL : i < L.size := by rw [hc.1]; exact hi
    refine ⟨?_, _, ho, fun e he hb => ?_⟩
    · have := hr.1
      rw [← hc.2 i] at this
      simp [hL] at this ⊢; exact this
    · have := and_eq_left.1 (Nat.eq_of_beq_eq_true hr.2)
      rw [hc.2]
      refine this e.on ?_
      rw [directs_at ho]
      exact maskL_spec.2 ⟨e, by simpa using he, hb, rfl⟩
theorem corr_set {L : Array Bool} {m i : Nat} (hc : Corr ops L m) (hi : i < ops.size) : Corr ops (L.setIfInBounds i true) (m ||| 2 ^ i) := by
  refine ⟨by simp [hc.1], fun k => ?_⟩
  rw [Nat.testBit_or, testBit_pow]
  by_cases h : i = k
  · subst h
    simp [hc.1, hi]
  · rw [getD_set_ne false h, hc.2]; simp [h]
theorem noneReady_at {dm : List Nat} {m : Nat} : ∀ {n : Nat}, noneReady dm m n = true → ∀ k, k < n → readyB dm m k = false
  | n + 1, h, k, hk => by
    simp only [noneReady, Bool.and_eq_true, Bool.not_eq_true'] at h
    rcases Nat.lt_or_ge k n with h' | h'
    · exact noneReady_at h.2 k h'
    · obtain rfl : k = n := by omega
      exact h.1
theorem onlyReady_at {dm : List Nat} {m i : Nat} : ∀ {n : Nat}, onlyReady dm m i n = true → ∀ k, k < n → readyB dm m k = true → k = i
  | n + 1, h, k, hk, hr => by
    simp only [onlyReady, Bool.and_eq_true, Bool.or_eq_true, Bool.not_eq_true'] at h
    rcases Nat.lt_or_ge k n with h' | h'
    · exact onlyReady_at h.2 k h' hr
    · obtain rfl : k = n := by omega
      rcases h.1 with h1 | h1
      · exact Nat.eq_of_beq_eq_true h1
      · rw [hr] at h1; cases h1
def seqS {σ : Type} (step : Nat → Array Bool → (σ → Prop) → σ → Prop) (K : σ → Prop) : List Nat → Array Bool → σ → Prop
  | [], _, s => K s
  | i :: l, L, s => step i L (seqS step K l (L.setIfInBounds i true)) s
theorem seq_any {σ : Type} {step : Nat → Array Bool → (σ → Prop) → σ → Prop} {K : σ → Prop} {free : Nat → Bool}
    (mono : ∀ (j : Nat) (L : Array Bool) (s : σ) (A B : σ → Prop), (∀ s, A s → B s) → step j L A s → step j L B s)
    (strict : ∀ i L s, free i = true → ¬ step i L (fun _ => False) s)
    (exch : ∀ (i : Nat), free i = true → ∀ (j : Nat) (L : Array Bool) (s : σ) (A : σ → Prop), Down md ops L → i ∈ Region.ready md ops L → j ∈ Region.ready md ops L → j ≠ i → step i L (step j (L.setIfInBounds i true) A) s → step j L (step i (L.setIfInBounds j true) A) s) :
    ∀ (l : List Nat) (m : Nat) (L : Array Bool) (s : σ), seqB free (directs md ops) ops.size l m = true → Corr ops L m → Down md ops L → seqS step K l L s → anyS step K md ops l.length L s
  | [], m, L, s, hb, hc, hd, h => by
    refine ⟨?_, h⟩
    cases hr : Region.ready md ops L with
    | nil => rfl
    | cons x r =>
      have hx : x ∈ Region.ready md ops L := by rw [hr]; exact List.mem_cons_self
      have := (ready_iff hc).1 hx
      rw [noneReady_at hb x this.1] at this
      exact absurd this.2 (by simp)
  | i :: l, m, L, s, hb, hc, hd, h => by
    simp only [seqB, Bool.and_eq_true, Bool.or_eq_true] at hb
    obtain ⟨⟨⟨h1, h2⟩, h3⟩, h4⟩ := hb
    have hin : i < ops.size := by have := Nat.le_of_ble_eq_true h1; omega
    have hri : i ∈ Region.ready md ops L := (ready_iff hc).2 ⟨hin, h2⟩
    have hrest := mono i L s _ _ (fun s' hs' => seq_any mono strict exch l _ _ s' h4 (corr_set hc hin) (hd.set hri) hs') h
    rcases h3 with h3 | h3
    · exact anyS_first mono (fun L s => strict i L s h3) (exch i h3) _ L s hd hri hrest
    · refine ⟨fun h0 => (by rw [h0] at hri; cases hri), fun j hj => ?_⟩
      obtain ⟨hjn, hrj⟩ := (ready_iff hc).1 hj
      obtain rfl := onlyReady_at h3 j hjn hrj
      exact hrest
def treeS {σ : Type} (step : Nat → Array Bool → (σ → Prop) → σ → Prop) (K : σ → Prop) : OT → Array Bool → σ → Prop
  | .nil, _, s => K s
  | .op i t, L, s => step i L (treeS step K t (L.setIfInBounds i true)) s
  | .br a b, L, s => treeS step K a L s ∧ treeS step K b L s
theorem coverB_at {dm : List Nat} {m : Nat} {hs : List Nat} : ∀ {n : Nat}, coverB dm m hs n = true → ∀ k, k < n → readyB dm m k = true → k ∈ hs
  | n + 1, h, k, hk, hr => by
    simp only [coverB, Bool.and_eq_true, Bool.or_eq_true, Bool.not_eq_true'] at h
    rcases Nat.lt_or_ge k n with h' | h'
    · exact coverB_at h.2 k h' hr
    · obtain rfl : k = n := by omega
      rcases h.1 with h1 | h1
      · exact List.contains_iff_mem.1 h1
      · rw [hr] at h1; cases h1
theorem heads_ready {free : Nat → Bool} {dm : List Nat} {n : Nat} : ∀ {t : OT} {m : Nat} {ex : Bool}, treeB free dm n t m ex = true → ∀ i ∈ t.heads, i < n ∧ readyB dm m i = true
  | .nil, _, _, _, i, hi => by cases hi
  | .op j t, m, ex, h, i, hi => by
    simp only [treeB, Bool.and_eq_true] at h
    obtain rfl : i = j := by simpa [OT.heads] using hi
    exact ⟨by have := Nat.le_of_ble_eq_true h.1.1.1; omega, h.1.1.2⟩
  | .br a b, m, ex, h, i, hi => by
    simp only [treeB, Bool.and_eq_true] at h
    rcases List.mem_append.1 hi with hi | hi
    · exact heads_ready h.1.2 i hi
    · exact heads_ready h.2 i hi
theorem heads_some {free : Nat → Bool} {dm : List Nat} {n : Nat} : ∀ {t : OT} {m : Nat}, treeB free dm n t m true = true → ∃ i, i ∈ t.heads
  | .nil, _, h => by simp [treeB] at h
  | .op j t, _, _ => ⟨j, by simp [OT.heads]⟩
  | .br a b, m, h => by
    simp only [treeB, Bool.and_eq_true] at h
    obtain ⟨i, hi⟩ := heads_some h.1.2
    exact ⟨i, List.mem_append_left _ hi⟩
theorem len_pos {free : Nat → Bool} {dm : List Nat} {n : Nat} : ∀ {t : OT} {m : Nat}, treeB free dm n t m true = true → ∃ k, t.len = k + 1
  | .nil, _, h => by simp [treeB] at h
  | .op j t, _, _ => ⟨t.len, rfl⟩
  | .br a b, m, h => by
    simp only [treeB, Bool.and_eq_true] at h
    show ∃ k, a.len = k + 1
    exact len_pos h.1.2
theorem tree_any {σ : Type} {step : Nat → Array Bool → (σ → Prop) → σ → Prop} {K : σ → Prop} {free : Nat → Bool}
    (mono : ∀ (j : Nat) (L : Array Bool) (s : σ) (A B : σ → Prop), (∀ s, A s → B s) → step j L A s → step j L B s)
    (strict : ∀ i L s, free i = true → ¬ step i L (fun _ => False) s)
    (exch : ∀ (i : Nat), free i = true → ∀ (j : Nat) (L : Array Bool) (s : σ) (A : σ → Prop), Down md ops L → i ∈ Region.ready md ops L → j ∈ Region.ready md ops L → j ≠ i → step i L (step j (L.setIfInBounds i true) A) s → step j L (step i (L.setIfInBounds j true) A) s) :
    ∀ (t : OT) (m : Nat) (ex : Bool) (L : Array Bool) (s : σ), treeB free (directs md ops) ops.size t m ex = true → Corr ops L m → Down md ops L → treeS step K t L s →
      (ex = false → anyS step K md ops t.len L s) ∧ ∀ i ∈ t.heads, ∀ k, t.len = k + 1 → step i L (anyS step K md ops k (L.setIfInBounds i true)) s
  | .nil, m, ex, L, s, hb, hc, hd, h => by
    simp only [treeB, Bool.and_eq_true] at hb
    refine ⟨fun _ => ⟨?_, h⟩, fun i hi => by cases hi⟩
    cases hr : Region.ready md ops L with
    | nil => rfl
    | cons x r =>
      have hx : x ∈ Region.ready md ops L := by rw [hr]; exact List.mem_cons_self
      have := (ready_iff hc).1 hx
      rw [noneReady_at hb.2 x this.1] at this
      exact absurd this.2 (by simp)
  | .op i t, m, ex, L, s, hb, hc, hd, h => by
    have hb0 := hb
    simp only [treeB, Bool.and_eq_true, Bool.or_eq_true] at hb
    obtain ⟨⟨⟨h1, h2⟩, h3⟩, h4⟩ := hb
    have hin : i < ops.size := by have := Nat.le_of_ble_eq_true h1; omega
    have hri : i ∈ Region.ready md ops L := (ready_iff hc).2 ⟨hin, h2⟩
    have hrest := mono i L s _ _ (fun s' hs' => (tree_any mono strict exch t _ false _ s' h4 (corr_set hc hin) (hd.set hri) hs').1 rfl) h
    refine ⟨fun hex => ?_, fun j hj k hk => ?_⟩
    · rcases h3 with (h3 | h3) | h3
      · rw [hex] at h3; cases h3
      · exact anyS_first mono (fun L s => strict i L s h3) (exch i h3) _ L s hd hri hrest
      · refine ⟨fun h0 => (by rw [h0] at hri; cases hri), fun j hj => ?_⟩
        obtain ⟨hjn, hrj⟩ := (ready_iff hc).1 hj
        obtain rfl := onlyReady_at h3 j hjn hrj
        exact hrest
    · obtain rfl : j = i := by simpa [OT.heads] using hj
      obtain rfl : t.len = k := by simpa [OT.len] using hk
      exact hrest
  | .br a b, m, ex, L, s, hb, hc, hd, h => by
    have hb0 := hb
    simp only [treeB, Bool.and_eq_true, Bool.or_eq_true] at hb
    obtain ⟨⟨⟨h1, h2⟩, h3⟩, h4⟩ := hb
    have hl : a.len = b.len := Nat.eq_of_beq_eq_true h2
    have ha := (tree_any mono strict exch a m true L s h3 hc hd h.1).2
    have hb' := (tree_any mono strict exch b m true L s h4 hc hd h.2).2
    have hall : ∀ i ∈ (OT.br a b).heads, ∀ k, (OT.br a b).len = k + 1 → step i L (anyS step K md ops k (L.setIfInBounds i true)) s := by
      intro i hi k hk
      rcases List.mem_append.1 hi with hi | hi
      · exact ha i hi k hk
      · exact hb' i hi k (by rw [← hl]; exact hk)
    refine ⟨fun hex => ?_, hall⟩
    rcases h1 with h1 | h1
    · rw [hex] at h1; cases h1
    · obtain ⟨k, hk⟩ := len_pos h3
      show anyS step K md ops a.len L s
      rw [hk]
      refine ⟨fun h0 => ?_, fun j hj => ?_⟩
      · obtain ⟨i, hi⟩ := heads_some h3
        have := (ready_iff hc).2 (heads_ready h3 i hi)
        rw [h0] at this; cases this
      · obtain ⟨hjn, hrj⟩ := (ready_iff hc).1 hj
        exact hall j (coverB_at h1 j hjn hrj) k hk
theorem down_none : Down md ops (Array.replicate ops.size false) := by
  refine ⟨by simp, fun i o _ h => ?_⟩
  exfalso
  rcases Nat.lt_or_ge i ops.size with h' | h'
  · simp [h'] at h
  · simp [Array.getElem?_eq_none, h'] at h
theorem corr_none : Corr ops (Array.replicate ops.size false) 0 := by
  refine ⟨by simp, fun i => ?_⟩
  rcases Nat.lt_or_ge i ops.size with h' | h'
  · simp [h']
  · simp [Array.getElem?_eq_none, h']
end
end Go.Vx
set_option linter.all false
namespace Go.Vx
open Go.RowKit
structure Pend where
  idx : Nat
  slot : Nat
  cells : AL
def junkSlots : List SV → List Pend → List SV
  | fr, [] => fr
  | fr, p :: l => setL (junkSlots fr l) p.slot .junk
def goneIdx : List HO → List Pend → List HO
  | hp, [] => hp
  | hp, p :: l => setH (goneIdx hp l) p.idx .gone
theorem AL.ho_ne (z : AL) : z.ho ≠ .gone := by cases z <;> (intro h; cases h)
def er (Pd : List Pend) (s : S) : S := { fr := junkSlots s.fr Pd, saved := s.saved, hp := goneIdx s.hp Pd }
def PR (w0 : Cx) (Pd : List Pend) (s : S) (a : Act) (sv : List Act) (w : World) : Prop :=
  Rl w0 (er Pd s) a sv w ∧ ∀ p ∈ Pd, getH s.hp p.idx = p.cells.ho ∧ setL s.fr p.slot (.ptr p.idx 0) = s.fr
section
variable {Pd : List Pend} {hp : List HO} {fr : List SV}
theorem lenH_gone : ∀ (Pd : List Pend), lenH (goneIdx hp Pd) = lenH hp
  | [] => rfl
  | p :: l => by rw [goneIdx, lenH_set, lenH_gone l]
theorem getL_junkSlots : ∀ {Pd : List Pend} {n : Nat}, (∀ p ∈ Pd, p.slot ≠ n) → getL (junkSlots fr Pd) n = getL fr n
  | [], _, _ => rfl
  | p :: l, n, h => by
    rw [junkSlots, getL_set_ne _ _ _ _ (h p List.mem_cons_self), getL_junkSlots fun q hq => h q (List.mem_cons_of_mem _ hq)]
theorem getH_gone_ne : ∀ {Pd : List Pend} {n : Nat}, (∀ p ∈ Pd, p.idx ≠ n) → getH (goneIdx hp Pd) n = getH hp n
  | [], _, _ => rfl
  | p :: l, n, h => by
    rw [goneIdx, getH_set_ne _ _ _ _ (h p List.mem_cons_self), getH_gone_ne fun q hq => h q (List.mem_cons_of_mem _ hq)]
theorem getH_gone_eq : ∀ {Pd : List Pend} {p : Pend}, p ∈ Pd → getH (goneIdx hp Pd) p.idx = .gone
  | q :: l, p, h => by
    rw [goneIdx]
    by_cases he : q.idx = p.idx
    · rw [he]
      rcases Nat.lt_or_ge p.idx (lenH (goneIdx hp l)) with hl | hl
      · rw [getH_set_eq _ _ _ hl]
      · rw [getH_ge _ _ (by rw [lenH_set]; exact hl)]
    · rw [getH_set_ne _ _ _ _ he]
      rcases List.mem_cons.1 h with rfl | h
      · exact absurd rfl he
      · exact getH_gone_eq h
theorem junkSlots_set : ∀ {Pd : List Pend} {n : Nat} {x : SV}, (∀ p ∈ Pd, p.slot ≠ n) → junkSlots (setL fr n x) Pd = setL (junkSlots fr Pd) n x
  | [], _, _, _ => rfl
  | p :: l, n, x, h => by
    rw [junkSlots, junkSlots, junkSlots_set (fun q hq => h q (List.mem_cons_of_mem _ hq)), setL_comm _ _ _ _ _ (fun e => h p List.mem_cons_self e.symm)]
theorem setH_comm : ∀ (l : List HO) (n m : Nat) (x y : HO), n ≠ m → setH (setH l n x) m y = setH (setH l m y) n x
  | [], _, _, _, _, _ => rfl
  | _ :: _, 0, 0, _, _, h => absurd rfl h
  | _ :: _, 0, _ + 1, _, _, _ => rfl
  | _ :: _, _ + 1, 0, _, _, _ => rfl
  | a :: l, n + 1, m + 1, x, y, h => congrArg (a :: ·) (setH_comm l n m x y (fun e => h (by rw [e])))
theorem goneIdx_set : ∀ {Pd : List Pend} {n : Nat} {x : HO}, (∀ p ∈ Pd, p.idx ≠ n) → goneIdx (setH hp n x) Pd = setH (goneIdx hp Pd) n x
  | [], _, _, _ => rfl
  | p :: l, n, x, h => by
    rw [goneIdx, goneIdx, goneIdx_set (fun q hq => h q (List.mem_cons_of_mem _ hq)), setH_comm _ _ _ _ _ (fun e => h p List.mem_cons_self e.symm)]
theorem setH_app : ∀ (a b : List HO) (n : Nat) (x : HO), n < lenH a → setH (a ++ b) n x = setH a n x ++ b
  | [], _, _, _, h => by simp [lenH] at h
  | _ :: _, _, 0, _, _ => rfl
  | y :: a, b, n + 1, x, h => congrArg (y :: ·) (setH_app a b n x (by simpa [lenH] using h))
theorem snocH_eq : ∀ (a : List HO) (x : HO), snocH a x = a ++ [x]
  | [], _ => rfl
  | y :: a, x => congrArg (y :: ·) (snocH_eq a x)
theorem goneIdx_app {hs : List HO} : ∀ {Pd : List Pend}, (∀ p ∈ Pd, p.idx < lenH hp) → goneIdx (hp ++ hs) Pd = goneIdx hp Pd ++ hs
  | [], _ => rfl
  | p :: l, h => by
    rw [goneIdx, goneIdx, goneIdx_app (fun q hq => h q (List.mem_cons_of_mem _ hq)), setH_app _ _ _ _ (by rw [lenH_gone]; exact h p List.mem_cons_self)]
theorem goneIdx_snoc {x : HO} (h : ∀ p ∈ Pd, p.idx < lenH hp) : goneIdx (snocH hp x) Pd = snocH (goneIdx hp Pd) x := by
  rw [snocH_eq, snocH_eq, goneIdx_app h]
theorem live_not {w : World} {bs : List BK} {B : Bd} {i : Nat} {x : BK} (hH : Hp w bs B (goneIdx hp Pd)) (hb : bs[i]? = some x) (hx : x ≠ .gone) : (∀ p ∈ Pd, p.idx ≠ i) ∧ getH (goneIdx hp Pd) i = getH hp i := by
  have : ∀ p ∈ Pd, p.idx ≠ i := by
    rintro p hp rfl
    have := hH.ent p.idx
    rw [getH_gone_eq hp] at this
    rcases this with h | h
    · rw [hb] at h; cases h; exact hx rfl
    · rw [hb] at h; cases h
  exact ⟨this, getH_gone_ne this⟩
theorem hpV {w : World} {bs : List BK} {B : Bd} (hH : Hp w bs B (goneIdx hp Pd)) : HpV w bs B hp :=
  ⟨fun i x hb hx => by have := hH.ent i; rw [(live_not hH hb hx).2] at this; exact this, fun _ _ _ _ hb => hH.le hb, hH.lo, fun _ _ _ _ hb => hH.un hb⟩
theorem blk_live {w : World} {bs : List BK} {B : Bd} {b : Nat} : ∀ {x : SV} {v : Value}, Rep w bs B x v → blk x = some b → ∃ y, bs[b]? = some y ∧ y ≠ .gone
  | _, _, .x _ _ h, hb => by cases h <;> cases hb
  | _, _, .agg _ _ _, hb => by cases hb
  | _, _, .tup _ _ _, hb => by cases hb
  | _, _, .fn _ _ _ _ _ _ _, hb => by cases hb
  | _, _, .iface _ _ _ _, hb => by cases hb
  | _, _, .ptr i off b' n h, hb => by cases hb; exact ⟨_, h, by simp⟩
  | _, _, .own i lo n size b' cap m ad h hl ha, hb => by cases hb; exact ⟨_, h, by simp⟩
  | _, _, .ownNil i size h, hb => by cases hb; exact ⟨_, h, by simp⟩
  | _, _, .elem i k off size b' cap m h hk, hb => by cases hb; exact ⟨_, h, by simp⟩
  | _, _, .smp _ _ _, hb => by cases hb
  | _, _, .optT _ _ _, hb => by cases hb
  | _, _, .optF _, hb => by cases hb
  | _, _, .cut _ _ _ _ h, hb => blk_live h hb
theorem headV_rep {w : World} {bs : List BK} {B : Bd} {xs : List SV} {vs : List Value} (h : RepL w bs B xs vs) : ∃ v, Rep w bs B (headV xs) v := by
  cases h with
  | nil => exact ⟨undef, .x _ _ (.junk _)⟩
  | cons x v l vs h h' => exact ⟨v, h⟩
theorem head_live {w : World} {bs : List BK} {B : Bd} {b : Nat} {xs : List SV} {vs : List Value} (hH : Hp w bs B (goneIdx hp Pd)) (h : RepL w bs B xs vs) (hb : blk (headV xs) = some b) : (∀ p ∈ Pd, p.idx ≠ b) ∧ getH (goneIdx hp Pd) b = getH hp b := by
  obtain ⟨v, hv⟩ := headV_rep h
  obtain ⟨y, h1, h2⟩ := blk_live hv hb
  exact live_not hH h1 h2
theorem store_blk {hp hp' : List HO} {n n' : Nat} {o : VO} (ho : o.isStore = true) {xs : List SV} (h : ∀ b, blk (headV xs) = some b → getH hp' b = getH hp b) : eff hp' n' o xs = eff hp n o xs := by
  cases o <;> simp only [VO.isStore, reduceCtorEq] at ho
  rename_i size
  rcases xs with _ | ⟨a, _ | ⟨v, _ | ⟨c, l⟩⟩⟩ <;> try rfl
  have key : storeAt hp' size (asCells v) a = storeAt hp size (asCells v) a := by
    cases a <;> try rfl
    case ptr i off => have := h i rfl; simp only [storeAt, this]
    case elem i k off sz => have := h i rfl; simp only [storeAt, this]
  simp only [eff, eStore, key]
theorem heavy_blk {hp hp' : List HO} {n : Nat} {o : VO} (hq : o.quiet = false) (ha : o.isAppend = false) (hbad : o.bad = false) {xs : List SV} (h : ∀ b, blk (headV xs) = some b → getH hp' b = getH hp b) : eff hp' n o xs = eff hp n o xs := by
  cases hs : o.isStore with
  | true => exact store_blk hs h
  | false => cases o <;> simp only [VO.quiet, VO.isStore, VO.isAppend, VO.bad, reduceCtorEq] at hq hs ha hbad <;> rfl
end
end Go.Vx
set_option linter.all false
namespace Go.Vx
open Go.RowKit
open Go.MapKept (run_setObj_map modify_keys)
section
variable {P : Program} {ρ : Operand → Value} {w w' : World} {bs bs' : List BK} {B : Bd} {hp : List HO}
def Bd.cx (B : Bd) (w : World) : Cx0 := { toWorld := w, F := fun b => B.I b = none, I := B.I, up := fun _ _ h => h, ex := fun _ h => h }
def bdZ : Bd := ⟨0, fun _ => True, fun _ => none, fun _ _ _ => trivial, fun _ _ => rfl⟩
theorem keyV_inj {kk : List IntKind} : ∀ {l l' : List Int}, l.length = kk.length → l'.length = kk.length → keyV kk l = keyV kk l' → l = l' := by
  intro l l' h1 h2 h
  simp only [keyV, Value.agg.injEq] at h
  have h : (kk.zip l).map (fun p => Value.int p.1 p.2) = (kk.zip l').map (fun p => Value.int p.1 p.2) := by simpa using congrArg Array.toList h
  induction kk generalizing l l' with
  | nil => cases l <;> cases l' <;> simp at h1 h2 ⊢
  | cons k kk ih =>
    cases l with
    | nil => simp at h1
    | cons x l =>
      cases l' with
      | nil => simp at h2
      | cons y l' =>
        simp only [List.zip_cons_cons, List.map_cons, List.cons.injEq, Value.int.injEq, true_and] at h
        rw [h.1, ih (by simpa using h1) (by simpa using h2) (by simp [keyV, h.2]) h.2]
def intsV (kk : List IntKind) (l : List Int) : List Value := (kk.zip l).map fun p => .int p.1 p.2
def intsS (kk : List IntKind) (l : List Int) : List SV := (kk.zip l).map fun p => .int p.1 p.2
theorem intsS_rep {kk : List IntKind} {l : List Int} : RepL w bs B (intsS kk l) (intsV kk l) := by
  unfold intsS intsV
  induction kk.zip l with
  | nil => exact .nil
  | cons p r ih => exact .cons _ _ _ _ (.x _ _ (.int _ _)) ih
theorem kindsI_ok : ∀ {fs : List Field} {k : Nat} {kk : List IntKind}, kindsI P k fs = some kk → kindsOf P k fs = some (kk.map fun _ => true)
  | [], k, kk, h => by simp only [kindsI, Option.some.injEq] at h; subst h; rfl
  | f :: fs, k, kk, h => by
    simp only [kindsI] at h
    split at h
    · rename_i hc
      split at h
      · rename_i kd hu
        obtain ⟨kk', h1, rfl⟩ := Option.map_eq_some_iff.1 h
        simp only [kindsOf]
        rw [if_pos hc]
        simp [kindOf, hu, kindsI_ok h1]
      · cases h
    · cases h
theorem allEqI : ∀ {kk : List IntKind} {l l' : List Int}, l.length = kk.length → l'.length = kk.length → ∃ p, allEq (kk.map fun _ => true) (intsS kk l) (intsS kk l') = some (p, decide (l = l')) ∧ p
  | [], l, l', h1, h2 => by
    cases l <;> cases l' <;> simp at h1 h2
    exact ⟨True, by simp [intsS, allEq], trivial⟩
  | k :: kk, l, l', h1, h2 => by
    cases l with
    | nil => simp at h1
    | cons x l =>
      cases l' with
      | nil => simp at h2
      | cons y l' =>
        obtain ⟨p, h3, h4⟩ := allEqI (kk := kk) (l := l) (l' := l') (by simpa using h1) (by simpa using h2)
        refine ⟨k = k ∧ p, ?_, rfl, h4⟩
        simp only [intsS, List.map_cons, List.zip_cons_cons, allEq]
        have h3' : allEq (kk.map fun _ => true) ((kk.zip l).map fun p => .int p.1 p.2) ((kk.zip l').map fun p => .int p.1 p.2) = some (p, decide (l = l')) := h3
        rw [h3']
        simp
theorem mapType_inv {t : TypeId} {kk : List IntKind} (h : mapType P t = some kk) : ∃ k e fs, P.underlying t = some (.map k e) ∧ P.underlying k = some (.struct fs) ∧ P.stoodInHeld k = false ∧ kindsI P 0 fs.toList = some kk ∧ (∀ w : World, (zeroValue e).run P w = .ok (.int .i64 0) w) := by
  unfold mapType at h
  split at h
  · rename_i k e hu
    split at h
    · rename_i fs hk
      split at h
      · rename_i hc
        simp only [Bool.and_eq_true, Bool.not_eq_true'] at hc
        refine ⟨k, e, fs, hu, hk, hc.2, h, fun w => ?_⟩
        have hz := hc.1
        unfold zero64 at hz
        split at hz
        · rename_i i hi
          split at hz
          · rename_i hz0
            simp [zeroValue, typeInfo, hi, hz0]
          · cases hz
        · cases hz
      · cases h
    · cases h
  · cases h
theorem run_keyEq {k : TypeId} {fs : Array Field} {kk : List IntKind} (hk : P.underlying k = some (.struct fs)) (hs : P.stoodInHeld k = false) (hi : kindsI P 0 fs.toList = some kk) {l l' : List Int} (h1 : l.length = kk.length) (h2 : l'.length = kk.length) :
    (Op.equal k (keyV kk l) (keyV kk l')).run P w = .ok (decide (l = l')) w := by
  obtain ⟨p, h3, h4⟩ := allEqI h1 h2
  have hu' : P.underlying k = some (.struct (P.fieldsOf k)) := by simp [Program.fieldsOf, hk]
  have hf : (P.fieldsOf k).toList = fs.toList := by simp [Program.fieldsOf, hk]
  have hrun := run_equalIn_struct (P := P) w 9999 k (intsV kk l).toArray (intsV kk l').toArray hu' hs
  rw [hf, eqFields_ok (d := 9998) (X := intsV kk l) (Y := intsV kk l') (bs := []) (B := bdZ) (kindsI_ok hi) h3 h4 (by simpa using intsS_rep) (by simpa using intsS_rep)] at hrun
  simpa [Op.equal, Op.maxDepth, keyV, intsV] using hrun
theorem run_findAskingI {k : TypeId} {fs : Array Field} {kk : List IntKind} (hk : P.underlying k = some (.struct fs)) (hs : P.stoodInHeld k = false) (hi : kindsI P 0 fs.toList = some kk) {l : List Int} (h1 : l.length = kk.length) :
    ∀ (es : List MapEntry) (i : Nat), (∀ e ∈ es, ∃ l, l.length = kk.length ∧ e.key = keyV kk l) →
      ((Instr.findAsking k (keyV kk l) es i).run P w = .ok none w) ∨ ∃ j e, (Instr.findAsking k (keyV kk l) es i).run P w = .ok (some (i + j, e.val)) w ∧ es[j]? = some e ∧ e.key = keyV kk l
  | [], i, _ => .inl rfl
  | e :: es, i, h => by
    obtain ⟨l', h2, h3⟩ := h e List.mem_cons_self
    have hq := run_keyEq (w := w) hk hs hi h1 h2
    unfold Instr.findAsking
    rw [h3]
    simp only [Sem.run_bind, hq, Result.andThen_ok]
    by_cases hl : l = l'
    · right
      refine ⟨0, e, by simp [hl], rfl, by rw [h3, hl]⟩
    · simp only [hl, decide_false, Bool.false_eq_true, if_false]
      rcases run_findAskingI hk hs hi h1 es (i + 1) (fun e he => h e (List.mem_cons_of_mem _ he)) with h4 | ⟨j, e', h4, h5, h6⟩
      · exact .inl h4
      · exact .inr ⟨j + 1, e', by rw [h4, show i + 1 + j = i + (j + 1) by omega], by simpa using h5, h6⟩
theorem run_checkI {kk : List IntKind} {l : List Int} {k : TypeId} {fs : Array Field} (hk : P.underlying k = some (.struct fs)) (hi : kindsI P 0 fs.toList = some kk) (h1 : l.length = kk.length) (em : Bool) : (Instr.checkKey em 10000 k (keyV kk l)).run P w = .ok () w := by
  have key : ∀ (gs : List Field) (j : Nat) (kj : List IntKind) (lj : List Int) (X : List Value), kindsI P j gs = some kj → lj.length = kj.length → X.drop j = intsV kj lj →
      (forIn gs PUnit.unit (fun (f : Field) (_ : PUnit) => (if f.name ≠ "_" then do let a ← part f.type X.toArray f.offset; Instr.checkKey em 9999 f.type a; pure (ForInStep.yield PUnit.unit) else pure (ForInStep.yield PUnit.unit) : Sem (ForInStep PUnit)))).run P w = .ok PUnit.unit w := by
    intro gs
    induction gs with
    | nil => intro j kj lj X _ _ _; simp
    | cons f gs ih =>
      intro j kj lj X hkj hlj hX
      simp only [kindsI] at hkj
      split at hkj
      · rename_i hc
        simp only [Bool.and_eq_true, beq_iff_eq, bne_iff_ne, ne_eq] at hc
        obtain ⟨⟨c1, c2⟩, c3⟩ := hc
        split at hkj
        · rename_i kd hu
          obtain ⟨kj', hk', rfl⟩ := Option.map_eq_some_iff.1 hkj
          cases lj with
          | nil => simp at hlj
          | cons x lj =>
            have hX' : X.drop j = .int kd x :: intsV kj' lj := by rw [hX]; rfl
            obtain ⟨d1, d2⟩ := drop_cons hX'
            have hp : (part f.type X.toArray f.offset).run P w = .ok (.int kd x) w := by
              rw [c2]
              exact run_part1 (b := true) (by simp [kindOf, hu]) d1
            have hck : (Instr.checkKey em 9999 f.type (.int kd x)).run P w = .ok () w := by
              unfold Instr.checkKey
              simp [run_underlying hu, Result.andThen]
            have ih' := ih (j + 1) kj' lj X hk' (by simpa using hlj) d2
            simp only [List.forIn_cons, Sem.run_bind, ne_eq, c3, not_false_eq_true, if_true, hp, Result.andThen_ok, hck, Sem.run_pure]
            exact ih'
        · cases hkj
      · cases hkj
  have := key fs.toList 0 kk l (intsV kk l) hi h1 rfl
  unfold Instr.checkKey
  simp only [Sem.run_bind, run_underlying hk, Result.andThen_ok, keyV]
  rw [← Array.forIn_toList]
  simp [intsV] at this ⊢
  rw [this]
  rfl
theorem sameBits_keyV {kk : List IntKind} {l : List Int} : Instr.sameBits 10000 (keyV kk l) (keyV kk l) = true := by
  have h : ∀ (vs : List (IntKind × Int)), ((vs.map fun p => Value.int p.1 p.2).zip (vs.map fun p => Value.int p.1 p.2)).all (fun (x, y) => Instr.sameBits 9999 x y) = true := by
    intro vs
    induction vs with
    | nil => rfl
    | cons p r ih => simp only [List.map_cons, List.zip_cons_cons, List.all_cons, ih, Bool.and_true]; simp [Instr.sameBits]
  unfold keyV Instr.sameBits
  simp only [beq_self_eq_true, Bool.true_and]
  exact h (kk.zip l)
theorem keyOf_ok : ∀ {kk : List IntKind} {cs : List SV} {p : Prop} {l : List Int} {vs : List Value}, keyOf kk cs = some (p, l) → p → RepL w bs B cs vs → vs = intsV kk l ∧ l.length = kk.length
  | [], cs, p, l, vs, h, hp, hr => by
    cases cs with
    | nil => simp only [keyOf, Option.some.injEq, Prod.mk.injEq] at h; obtain ⟨_, rfl⟩ := h; cases hr; exact ⟨rfl, rfl⟩
    | cons => simp [keyOf] at h
  | k :: kk, cs, p, l, vs, h, hp, hr => by
    cases cs with
    | nil => simp [keyOf] at h
    | cons c cs =>
      cases c <;> simp only [keyOf, reduceCtorEq] at h
      rename_i k' x
      obtain ⟨⟨q, r⟩, h1, h2⟩ := Option.map_eq_some_iff.1 h
      simp only [Prod.mk.injEq] at h2
      obtain ⟨rfl, rfl⟩ := h2
      obtain ⟨rfl, hq⟩ := hp
      obtain ⟨v, vs', rfl, g1, g2⟩ := hr.cons_inv
      obtain ⟨rfl, hl⟩ := keyOf_ok h1 hq g2
      rw [g1.int_inv]
      exact ⟨rfl, by simp [hl]⟩
theorem hp0 {z : Cx0} {w' : World} {J : Nat → Option IK} {hJ : Ext z J} (h : ∀ (b : Nat) (K : IK), J b = some K → ∃ o, w'.heap[b]? = some o ∧ K.ok o) : Hp w' [] (z.wI J hJ).bd [] :=
  ⟨rfl, fun i => .inr (by simp), fun _ _ _ _ _ _ _ h => by simp at h, fun _ _ _ _ h => by simp at h, fun b K hb => ⟨free_nil, h b K hb⟩⟩
theorem ext_refl (z : Cx0) : Ext z z.I := ⟨fun _ _ => rfl, fun _ _ h => h⟩
def POk (P : Program) (ρ : Operand → Value) (op : Op) (w : World) (B : Bd) (k : SV → List HO → Prop) : Prop :=
  ∃ r v w' x J, ∃ hJ : Ext (B.cx w) J, (∀ dst type pos after guard, (execOp ρ ⟨dst, op, type, pos, after, guard⟩).run P w = .ok r w') ∧ (r = .value v ∨ (r = .skip ∧ v = undef)) ∧ k x [] ∧
    Rep w' [] ((B.cx w).wI J hJ).bd x v ∧ Hp w' [] ((B.cx w).wI J hJ).bd [] ∧ BelowI (B.cx w).bd w w' ∧ freshS x
theorem wrote_belowI {b : Nat} {o : Obj} {K : IK} (hw : Wrote w w' b o) (hI : B.I b = some K) : BelowI (B.cx w).bd w w' :=
  ⟨hw.os, hw.tape, hw.output, Nat.le_of_eq hw.size.symm, fun k hk hIk => hw.other k (by rintro rfl; have h : B.I k = none := hIk; rw [hI] at h; cases h)⟩
theorem wrote_sat (hH : Hp w bs B hp) {b : Nat} {o : Obj} {K : IK} (hw : Wrote w w' b o) (hI : B.I b = some K) (ho : K.ok o) : ∀ (b : Nat) (K : IK), B.I b = some K → ∃ o, w'.heap[b]? = some o ∧ K.ok o := by
  intro b' K' hI'
  by_cases hb : b' = b
  · subst hb
    rw [hI] at hI'; cases hI'
    exact ⟨o, hw.at_, ho⟩
  · obtain ⟨_, o', h1, h2⟩ := hH.reg b' K' hI'
    exact ⟨o', by rw [hw.other b' hb]; exact h1, h2⟩
theorem set_wrote {b : Nat} {o o' : Obj} (hb : w.heap[b]? = some o) : Wrote w { w with heap := w.heap.setIfInBounds b o' } b o' := by
  have hbl : b < w.heap.size := (Array.getElem?_eq_some_iff.1 hb).1
  exact ⟨rfl, rfl, rfl, by simp, by simp [hbl], fun r hr => by simp [Ne.symm hr]⟩
inductive PsdOp (P : Program) : Op → VO → List Operand → Prop where
  | load (t : TypeId) (a : Operand) (g : Bool) (s : Nat) (hg : aggOf P t = some g) (hs : sizeOf? P t = some s) (hc : chk g s = true) : PsdOp P (.load t a) (.load g s) [a]
  | store (t : TypeId) (a x : Operand) (s : Nat) (hs : sizeOf? P t = some s) : PsdOp P (.store t a x) (.store s) [a, x]
  | mk (t : TypeId) (kk : List IntKind) (h : mapType P t = some kk) : PsdOp P (.makeMap t none) (.mkMap kk) []
  | get (t : TypeId) (m k : Operand) (kk : List IntKind) (h : mapType P t = some kk) : PsdOp P (.lookup t m k true) (.mapGet kk) [m, k]
  | put (t : TypeId) (m k x : Operand) (kk : List IntKind) (h : mapType P t = some kk) : PsdOp P (.mapUpdate t m k x) (.mapPut kk) [m, k, x]
theorem vbin_psd {op : BinOp} {t : TypeId} {v : VO} (hv : vbin P op t = some v) (xs : List SV) : psd v xs = none := by
  cases op <;> simp only [vbin] at hv
  · split at hv <;> cases hv; rfl
  · split at hv <;> cases hv; rfl
  · cases hv; rfl
  · cases hv; rfl
  · cases hv; rfl
  · cases hv; rfl
  · cases hv; rfl
  · cases hv; rfl
  · cases hv; rfl
  · cases hv; rfl
  · cases hv; rfl
  · split at hv
    · cases hv; rfl
    · split at hv
      · cases hv; rfl
      split at hv
      · cases hv; rfl
      · obtain ⟨ks, hk, rfl⟩ := Option.map_eq_some_iff.1 hv
        rfl
  · split at hv
    · cases hv; rfl
    · split at hv
      · cases hv; rfl
      split at hv
      · cases hv; rfl
      · obtain ⟨ks, hk, rfl⟩ := Option.map_eq_some_iff.1 hv
        rfl
  · cases hv; rfl
  · cases hv; rfl
  · cases hv; rfl
  · cases hv; rfl
theorem vop_psd {o : Oper} {vo : VO} {ops : List Operand} (hv : vop P o = some (vo, ops)) : PsdOp P o.op vo ops ∨ ∀ xs, psd vo xs = none := by
  obtain ⟨dst, op, type, pos, after, guard⟩ := o
  unfold vop at hv
  simp only at hv
  split at hv
  · cases hv; exact .inr fun _ => rfl
  · cases hv; exact .inr fun _ => rfl
  · cases hv; exact .inr fun _ => rfl
  · split at hv
    · obtain ⟨kk, hk, hv⟩ := Option.map_eq_some_iff.1 hv
      cases hv; exact .inl (.mk _ kk hk)
    · split at hv <;> cases hv
      exact .inr fun _ => rfl
  · split at hv
    · cases hv; exact .inr fun _ => rfl
    · obtain ⟨kk, hk, hv⟩ := Option.map_eq_some_iff.1 hv
      cases hv; exact .inl (.put _ _ _ _ kk hk)
  · obtain ⟨kk, hk, hv⟩ := Option.map_eq_some_iff.1 hv
    cases hv; exact .inl (.get _ _ _ kk hk)
  · cases hv; exact .inr fun _ => rfl
  · cases hv; exact .inr fun _ => rfl
  · split at hv
    · obtain ⟨z, hz, hv⟩ := Option.bind_eq_some_iff.1 hv
      obtain ⟨s, hs, hv⟩ := Option.map_eq_some_iff.1 hv
      cases hv; exact .inr fun _ => rfl
    · obtain ⟨z, hz, hv⟩ := Option.map_eq_some_iff.1 hv
      cases hv; exact .inr fun _ => rfl
  · cases hv; exact .inr fun _ => rfl
  · obtain ⟨z, hz, hv⟩ := Option.bind_eq_some_iff.1 hv
    obtain ⟨pl, hpl, hv⟩ := Option.bind_eq_some_iff.1 hv
    split at hv <;> cases hv
    exact .inr fun _ => rfl
  · obtain ⟨g, hg, hv⟩ := Option.bind_eq_some_iff.1 hv
    obtain ⟨s, hs, hv⟩ := Option.bind_eq_some_iff.1 hv
    split at hv <;> cases hv
    exact .inl (.load _ _ g s hg hs ‹_›)
  · obtain ⟨s, hs, hv⟩ := Option.map_eq_some_iff.1 hv
    cases hv
    exact .inl (.store _ _ _ s hs)
  · split at hv <;> cases hv
    exact .inr fun _ => rfl
  · split at hv <;> cases hv
    exact .inr fun _ => rfl
  · obtain ⟨v, hb, hv⟩ := Option.map_eq_some_iff.1 hv
    cases hv
    exact .inr (vbin_psd hb)
  · cases hv; exact .inr fun _ => rfl
  · cases hv; exact .inr fun _ => rfl
  · split at hv <;> cases hv
    exact .inr fun _ => rfl
  · obtain ⟨fs, hfs, hv⟩ := Option.bind_eq_some_iff.1 hv
    obtain ⟨fd, hfd, hv⟩ := Option.bind_eq_some_iff.1 hv
    obtain ⟨z, hz, hv⟩ := Option.bind_eq_some_iff.1 hv
    split at hv <;> cases hv
    exact .inr fun _ => rfl
  · obtain ⟨fs, hfs, hv⟩ := Option.bind_eq_some_iff.1 hv
    obtain ⟨fd, hfd, hv⟩ := Option.bind_eq_some_iff.1 hv
    obtain ⟨z, hz, hv⟩ := Option.bind_eq_some_iff.1 hv
    obtain ⟨g, hg, hv⟩ := Option.bind_eq_some_iff.1 hv
    split at hv <;> cases hv
    exact .inr fun _ => rfl
  · split at hv
    · obtain ⟨s, hs, hv⟩ := Option.map_eq_some_iff.1 hv
      cases hv; exact .inr fun _ => rfl
    · obtain ⟨s, hs, hv⟩ := Option.map_eq_some_iff.1 hv
      cases hv; exact .inr fun _ => rfl
    · cases hv
  · split at hv
    · obtain ⟨s, hs, hv⟩ := Option.bind_eq_some_iff.1 hv
      obtain ⟨g, hg, hv⟩ := Option.bind_eq_some_iff.1 hv
      split at hv <;> cases hv
      exact .inr fun _ => rfl
    · cases hv; exact .inr fun _ => rfl
    · cases hv
  · split at hv
    · obtain ⟨s, hs, hv⟩ := Option.map_eq_some_iff.1 hv
      cases hv; exact .inr fun _ => rfl
    · obtain ⟨s, hs, hv⟩ := Option.map_eq_some_iff.1 hv
      cases hv; exact .inr fun _ => rfl
    · cases hv
  · split at hv
    · obtain ⟨s, hs, hv⟩ := Option.map_eq_some_iff.1 hv
      cases hv; exact .inr fun _ => rfl
    · cases hv
  · split at hv
    · obtain ⟨s, hs, hv⟩ := Option.bind_eq_some_iff.1 hv
      obtain ⟨b, hb, hv⟩ := Option.bind_eq_some_iff.1 hv
      obtain ⟨z, hz, hv⟩ := Option.bind_eq_some_iff.1 hv
      split at hv <;> cases hv
      exact .inr fun _ => rfl
    · cases hv
  · split at hv
    · obtain ⟨s, hs, hv⟩ := Option.bind_eq_some_iff.1 hv
      obtain ⟨z, hz, hv⟩ := Option.bind_eq_some_iff.1 hv
      split at hv <;> cases hv
      exact .inr fun _ => rfl
    · cases hv
  · cases hv; exact .inr fun _ => rfl
  · split at hv
    · cases hv
    · cases hv; exact .inr fun _ => rfl
    · cases hv
  · cases hv; exact .inr fun _ => rfl
  · rename_i c
    split at hv
    · split at hv
      · cases hv; exact .inr fun _ => rfl
      · cases hv; exact .inr fun _ => rfl
    · cases hv; exact .inr fun _ => rfl
    · cases hv; exact .inr fun _ => rfl
    · split at hv
      · cases hv; exact .inr fun _ => rfl
      · cases hv; exact .inr fun _ => rfl
      · cases hv; exact .inr fun _ => rfl
      · cases hv; exact .inr fun _ => rfl
      · cases hv
    · cases hv; exact .inr fun _ => rfl
    · cases hv; exact .inr fun _ => rfl
    · split at hv
      · obtain ⟨s, hs, hv⟩ := Option.bind_eq_some_iff.1 hv
        obtain ⟨b, hb, hv⟩ := Option.bind_eq_some_iff.1 hv
        obtain ⟨z, hz, hv⟩ := Option.bind_eq_some_iff.1 hv
        split at hv <;> cases hv
        exact .inr fun _ => rfl
      · cases hv
    · cases hv
  · cases hv
theorem loadR_ok {t : TypeId} {a : Operand} {C : Int → Prop} {k : SV → List HO → Prop} (hg : aggOf P t = some false) (hc : ∀ v, C v → k (.int .i64 v) []) (hx : Rep w bs B (.rcell C) (ρ a)) (hH : Hp w bs B hp) : POk P ρ (.load t a) w B k := by
  obtain ⟨n, D, j, b, rfl, hI, hj, hv⟩ := hx.rcell_inv
  obtain ⟨_, o, ho, vs, T, rfl, hn, hall⟩ := hH.reg b _ hI
  obtain ⟨v, hvv, hC⟩ := hall j hj
  refine ⟨.value (.int .i64 v), .int .i64 v, w, .int .i64 v, B.I, ext_refl (B.cx w), fun dst type pos after guard => ?_, .inl rfl, hc v hC, .x _ _ (.int _ _), hp0 fun b K h => (hH.reg b K h).2, BelowI.refl _ _, trivial⟩
  simp only [execOp, Instr.loadAt, hv, Instr.sureAddr, loadVar, Sem.run_bind, Sem.run_pure, Result.andThen_ok, run_isAgg hg, Bool.false_eq_true, if_false, run_load]
  have hcell : w.cell? ⟨b, j, none⟩ = some (.int .i64 v) := by
    have h1 : Cells w b 0 vs.toList := ⟨vs, T, (0, 0), ho, fun q u hq => by simpa using hq⟩
    have := h1.cell (j := j) (v := .int .i64 v) (by simpa using hvv)
    simpa using this
  rw [hcell]; rfl
theorem storeR_ok {t : TypeId} {a x : Operand} {C : Int → Prop} {v : Int} {k : SV → List HO → Prop} (hs : sizeOf? P t = some 1) (hC : C v) (hc : k .junk []) (hx : Rep w bs B (.rcell C) (ρ a)) (hy : ρ x = .int .i64 v) (hH : Hp w bs B hp) : POk P ρ (.store t a x) w B k := by
  obtain ⟨n, D, j, b, rfl, hI, hj, hv⟩ := hx.rcell_inv
  obtain ⟨_, o, ho, vs, T, rfl, hn, hall⟩ := hH.reg b _ hI
  obtain ⟨w', cs', hrun, hw, hcs⟩ := run_storeAt (P := P) (ρ := ρ) (x := a) (y := x) hs hv ho (by rw [hy]; rfl) (by omega) (by rw [hy]; simp [Value.cells, Value.oneCell'])
  have hcs' : cs'.toList = vs.toList.set j (.int .i64 v) := by
    rw [hcs, hy]
    simp only [Value.cells, spliceV, List.length_cons, List.length_nil]
    rw [List.set_eq_take_append_cons_drop, if_pos (by simp; omega)]
    simp
  have hok : (IK.ints n D).ok (.cells cs' T (0, 0)) := by
    refine ⟨cs', T, rfl, ?_, fun q hq => ?_⟩
    · rw [← Array.length_toList, hcs']; simpa using hn
    · rw [← Array.getElem?_toList, hcs', List.getElem?_set]
      split
      · rename_i he
        subst he
        rw [if_pos (by simp; omega)]
        exact ⟨v, rfl, hC⟩
      · obtain ⟨u, h1, h2⟩ := hall q hq
        exact ⟨u, by rw [Array.getElem?_toList]; exact h1, h2⟩
  exact ⟨.skip, undef, w', .junk, B.I, ext_refl (B.cx w), hrun, .inr ⟨rfl, rfl⟩, hc, .x _ _ (.junk _), hp0 (wrote_sat hH hw hI hok), wrote_belowI hw hI, trivial⟩
theorem mkMap_ok {t : TypeId} {kk : List IntKind} {k : SV → List HO → Prop} {C : List Int → Int → Prop} (hc : k (.imap kk C) []) (hH : Hp w bs B hp) : POk P ρ (.makeMap t none) w B k := by
  let J : Nat → Option IK := fun b => if b = w.heap.size then some (.map kk C) else B.I b
  have hJ : Ext (B.cx w) J := ⟨fun b hb => by show (if b = w.heap.size then _ else _) = _; rw [if_neg (by have h : b < w.heap.size := hb; omega)]; rfl, fun b K hK => by
    show (if b = w.heap.size then _ else _) = _
    have hK : B.I b = some K := hK
    obtain ⟨_, o, ho, _⟩ := hH.reg b K hK
    have := (Array.getElem?_eq_some_iff.1 ho).1
    rw [if_neg (by omega)]; exact hK⟩
  refine ⟨.value (.map (some w.heap.size)), _, World.push w (.map #[] 0), .imap kk C, J, hJ, fun dst type pos after guard => ?_, .inl rfl, hc, .x _ _ (.imap _ _ _ (by show J _ = _; simp [J])), hp0 fun b K hK => ?_, .of (push_below (B := (B.cx w).bd) _ (Nat.le_refl _)), trivial⟩
  · simp [execOp, Instr.makeMap, Result.andThen, run_newObj, World.push]
  · by_cases hb : b = w.heap.size
    · subst hb
      have : K = .map kk C := by have h : J w.heap.size = some K := hK; simp [J] at h; exact h.symm
      subst this
      exact ⟨_, push_new, #[], 0, rfl, fun e he => by simp at he⟩
    · have h : J b = some K := hK
      simp only [J, if_neg hb] at h
      obtain ⟨_, o, ho, hok⟩ := hH.reg b K h
      exact ⟨o, push_old ho, hok⟩
theorem mapGet_ok {t : TypeId} {m y : Operand} {kk : List IntKind} {C : List Int → Int → Prop} {l : List Int} {k : SV → List HO → Prop} (ht : mapType P t = some kk) (hc : ∀ r : Option Int, (∀ v, r = some v → C l v) → k (.tup [.int .i64 (r.getD 0), .bool r.isSome]) [])
    (hx : Rep w bs B (.imap kk C) (ρ m)) (hy : ρ y = keyV kk l) (hl : l.length = kk.length) (hH : Hp w bs B hp) : POk P ρ (.lookup t m y true) w B k := by
  obtain ⟨b, hI, hv⟩ := hx.imap_inv
  obtain ⟨_, o, ho, es, clock, rfl, hall⟩ := hH.reg b _ hI
  obtain ⟨kt, et, fs, hu, hk, hst, hki, hz⟩ := mapType_inv ht
  have hkeys : ∀ e ∈ es.toList, ∃ l, l.length = kk.length ∧ e.key = keyV kk l := fun e he => by
    obtain ⟨l, v, h1, h2, _⟩ := hall e he; exact ⟨l, h1, h2⟩
  have hwide : (match P.underlying kt with | some (.array _ _) | some (.struct _) => true | _ => false) = true := by rw [hk]
  have hfin : ∀ a, (Instr.findAsking kt (keyV kk l) es.toList 0).run P w = .ok a w → (Instr.findKey kt (keyV kk l) es.toList).run P w = .ok a w := fun a h => by rw [run_findKey_eq w hwide]; exact h
  have fin : ∀ r : Option Int, (∀ v, r = some v → C l v) → (∀ dst type pos after guard, (execOp ρ ⟨dst, .lookup t m y true, type, pos, after, guard⟩).run P w = .ok (.value (.tuple #[.int .i64 (r.getD 0), .bool r.isSome])) w) → POk P ρ (.lookup t m y true) w B k := fun r hr hrun =>
    ⟨_, .tuple #[.int .i64 (r.getD 0), .bool r.isSome], w, _, B.I, ext_refl (B.cx w), hrun, .inl rfl, hc r hr, .x _ _ (.tup _ _ (.cons _ _ _ _ (.int _ _) (.cons _ _ _ _ (.bool _) .nil))), hp0 fun b K h => (hH.reg b K h).2, BelowI.refl _ _, by simp [freshS, freshL]⟩
  rcases run_findAskingI (w := w) hk hst hki hl es.toList 0 hkeys with h | ⟨j, e, h, h2, h3⟩
  · refine fin none (fun _ h => by cases h) fun dst type pos after guard => ?_
    simp [execOp, Instr.lookup, run_underlying hu, hv, hy, MapKept.run_getObj_map ho, run_checkI hk hki hl, hfin _ h, Result.andThen, hz w]
  · obtain ⟨l', v, g1, g2, g3, g4⟩ := hall e (List.mem_of_getElem? h2)
    have : l' = l := keyV_inj g1 hl (by rw [← g2, h3])
    subst this
    refine fin (some v) (fun u hu => by cases hu; exact g4) fun dst type pos after guard => ?_
    simp [execOp, Instr.lookup, run_underlying hu, hv, hy, MapKept.run_getObj_map ho, run_checkI hk hki hl, hfin _ h, Result.andThen, g3]
theorem mapPut_ok {t : TypeId} {m y x : Operand} {kk : List IntKind} {C : List Int → Int → Prop} {l : List Int} {v : Int} {k : SV → List HO → Prop} (ht : mapType P t = some kk) (hC : C l v) (hc : k .junk [])
    (hx : Rep w bs B (.imap kk C) (ρ m)) (hy : ρ y = keyV kk l) (hl : l.length = kk.length) (hxv : ρ x = .int .i64 v) (hH : Hp w bs B hp) : POk P ρ (.mapUpdate t m y x) w B k := by
  obtain ⟨b, hI, hv⟩ := hx.imap_inv
  obtain ⟨_, o, ho, es, clock, rfl, hall⟩ := hH.reg b _ hI
  obtain ⟨kt, et, fs, hu, hk, hst, hki, hz⟩ := mapType_inv ht
  have hkeys : ∀ e ∈ es.toList, ∃ l, l.length = kk.length ∧ e.key = keyV kk l := fun e he => by
    obtain ⟨l, v, h1, h2, _⟩ := hall e he; exact ⟨l, h1, h2⟩
  have hwide : (match P.underlying kt with | some (.array _ _) | some (.struct _) => true | _ => false) = true := by rw [hk]
  have hfin : ∀ a, (Instr.findAsking kt (keyV kk l) es.toList 0).run P w = .ok a w → (Instr.findKey kt (keyV kk l) es.toList).run P w = .ok a w := fun a h => by rw [run_findKey_eq w hwide]; exact h
  have fin : ∀ (es' : Array MapEntry) (clock' : Nat), (∀ dst type pos after guard, (execOp ρ ⟨dst, .mapUpdate t m y x, type, pos, after, guard⟩).run P w = .ok .skip { w with heap := w.heap.setIfInBounds b (.map es' clock') }) → (∀ e ∈ es'.toList, ∃ l v, l.length = kk.length ∧ e.key = keyV kk l ∧ e.val = .int .i64 v ∧ C l v) → POk P ρ (.mapUpdate t m y x) w B k := fun es' clock' hrun hall' =>
    ⟨.skip, undef, _, .junk, B.I, ext_refl (B.cx w), hrun, .inr ⟨rfl, rfl⟩, hc, .x _ _ (.junk _), hp0 (wrote_sat hH (set_wrote ho) hI ⟨es', clock', rfl, hall'⟩), wrote_belowI (set_wrote ho) hI, trivial⟩
  rcases run_findAskingI (w := w) hk hst hki hl es.toList 0 hkeys with h | ⟨j, e, h, h2, h3⟩
  · refine fin (es.push { key := keyV kk l, val := .int .i64 v, born := clock }) (clock + 1) (fun dst type pos after guard => ?_) fun e he => ?_
    · simp [execOp, Instr.mapUpdate, run_underlying hu, hv, hy, hxv, MapKept.run_getObj_map ho, run_checkI hk hki hl, hfin _ h, Result.andThen, run_setObj_map _ ho]
    · simp only [Array.toList_push, List.mem_append, List.mem_singleton] at he
      rcases he with he | rfl
      · exact hall e he
      · exact ⟨l, v, hl, rfl, rfl, hC⟩
  · have hj : es[j]? = some e := by simpa using h2
    have hks : (Instr.keyThatStays (keyV kk l) (keyV kk l)).run P w = .ok (keyV kk l) w := by simp [Instr.keyThatStays, sameBits_keyV]
    refine fin (es.modify j fun e => { e with key := keyV kk l, val := .int .i64 v }) clock (fun dst type pos after guard => ?_) fun e' he => ?_
    · simp [execOp, Instr.mapUpdate, run_underlying hu, hv, hy, hxv, MapKept.run_getObj_map ho, run_checkI hk hki hl, hfin _ h, hj, h3, hks, Result.andThen, run_setObj_map _ ho]
    · obtain ⟨q, hq⟩ := List.mem_iff_getElem?.1 he
      rw [Array.getElem?_toList, Array.getElem?_modify] at hq
      split at hq
      · obtain ⟨e0, _, rfl⟩ := Option.map_eq_some_iff.1 hq
        exact ⟨l, v, hl, rfl, rfl, hC⟩
      · exact hall e' (List.mem_of_getElem? (by rw [Array.getElem?_toList]; exact hq))
theorem psd_ok {o : Oper} {vo : VO} {ops : List Operand} {xs : List SV} {c : CRes} {k : SV → List HO → Prop} (hv : vop P o = some (vo, ops)) (hp1 : psd vo xs = some c) (hc : CSat c k) (hx : RepL w bs B xs (ops.map ρ)) (hH : Hp w bs B hp) : POk P ρ o.op w B k := by
  have hcase := vop_psd hv
  generalize o.op = op at hcase
  rcases hcase with h | h
  · cases h with
    | load t a g s hg hs hck =>
      unfold psd at hp1
      cases g with
      | true => cases hp1
      | false =>
        simp only at hp1
        split at hp1 <;> cases hp1
        exact loadR_ok hg hc (one1 hx) hH
    | store t a x s hs =>
      unfold psd at hp1
      simp only at hp1
      split at hp1 <;> cases hp1
      obtain ⟨h1, h2⟩ := two hx
      obtain ⟨⟨rfl, hC⟩, hc⟩ := hc
      exact storeR_ok hs hC hc h1 h2.int_inv hH
    | mk t kk ht =>
      unfold psd at hp1
      simp only at hp1
      split at hp1 <;> cases hp1
      obtain ⟨C, hC⟩ := hc
      exact mkMap_ok hC hH
    | get t m y kk ht =>
      unfold psd at hp1
      simp only at hp1
      split at hp1
      · rename_i ks C cs
        obtain ⟨⟨p, l⟩, hk, heq⟩ := Option.map_eq_some_iff.1 hp1
        simp only at heq
        subst heq
        obtain ⟨⟨rfl, hpp⟩, hc⟩ := hc
        obtain ⟨h1, h2⟩ := two hx
        obtain ⟨vs, h3, h4⟩ := h2.agg_inv
        obtain ⟨rfl, h5⟩ := keyOf_ok hk hpp h4
        exact mapGet_ok ht hc h1 h3 h5 hH
      · cases hp1
    | put t m y x kk ht =>
      unfold psd at hp1
      simp only at hp1
      split at hp1
      · rename_i ks C cs v
        obtain ⟨⟨p, l⟩, hk, heq⟩ := Option.map_eq_some_iff.1 hp1
        simp only at heq
        subst heq
        obtain ⟨⟨⟨rfl, hpp⟩, hC⟩, hc⟩ := hc
        obtain ⟨v1, l1, e1, h1, hx⟩ := hx.cons_inv
        obtain ⟨v2, l2, e2, h2, hx⟩ := hx.cons_inv
        obtain ⟨v3, l3, e3, h3, hx⟩ := hx.cons_inv
        simp only [List.map_cons, List.map_nil, List.cons.injEq] at e1
        obtain ⟨r1, rfl⟩ := e1
        simp only [List.cons.injEq] at e2
        obtain ⟨r2, rfl⟩ := e2
        simp only [List.cons.injEq] at e3
        obtain ⟨r3, rfl⟩ := e3
        obtain ⟨vs, h5, h6⟩ := h2.agg_inv
        obtain ⟨rfl, h7⟩ := keyOf_ok hk hpp h6
        exact mapPut_ok ht hC hc (r1 ▸ h1) (r2.trans h5) h7 (r3.trans h3.int_inv) hH
      · cases hp1
  · rw [h xs] at hp1; cases hp1
end
end Go.Vx
set_option linter.all false
namespace Go.Vx
open Go.RowKit
section
variable {P : Program} {E : Env} {w0 : Cx} {rd : Option Nat} {Pd : List Pend} {A : S → Prop} {s : S}
theorem er_put {d : Option Nat} {x : SV} (hd : ∀ p ∈ Pd, d ≠ some p.slot) : er Pd (s.put d x) = (er Pd s).put d x := by
  cases d with
  | none => rfl
  | some n => simp only [er, S.put]; rw [junkSlots_set fun p hp e => hd p hp (by rw [e])]
theorem er_args : ∀ {xs : List X}, (∀ p ∈ Pd, p.slot ∉ slots xs) → (er Pd s).args xs = s.args xs
  | [], _ => rfl
  | x :: l, h => by
    simp only [S.args]
    rw [er_args fun p hp hm => h p hp (by simp [slots, hm])]
    cases x with
    | cn _ => rfl
    | tm n => simp only [S.x, er]; rw [getL_junkSlots fun p hp e => h p hp (by simp [slots, X.slot, e])]
theorem pend_put {d : Option Nat} {x : SV} (hd : ∀ p ∈ Pd, d ≠ some p.slot) (h : ∀ p ∈ Pd, getH s.hp p.idx = p.cells.ho ∧ setL s.fr p.slot (.ptr p.idx 0) = s.fr) :
    ∀ p ∈ Pd, getH (s.put d x).hp p.idx = p.cells.ho ∧ setL (s.put d x).fr p.slot (.ptr p.idx 0) = (s.put d x).fr := fun p hp => by
  refine ⟨by rw [put_hp]; exact (h p hp).1, ?_⟩
  cases d with
  | none => exact (h p hp).2
  | some n =>
    show setL (setL s.fr n x) p.slot _ = setL s.fr n x
    rw [setL_comm _ _ _ _ _ (fun e => hd p hp (by rw [e])), (h p hp).2]
theorem pend_lt (h : ∀ p ∈ Pd, getH s.hp p.idx = p.cells.ho ∧ setL s.fr p.slot (.ptr p.idx 0) = s.fr) : ∀ p ∈ Pd, p.idx < lenH s.hp := fun p hp => by
  rcases Nat.lt_or_ge p.idx (lenH s.hp) with h' | h'
  · exact h'
  · have := (h p hp).1
    rw [getH_ge _ _ h'] at this; exact absurd this.symm (AL.ho_ne _)
theorem wpOp_yes {ops : Array Oper} {κ : Kont} {i : Nat} {o : Oper} {a : Act} {w : World} {K : Act → World → Prop} (hi : ops[i]? = some o) (hw : Region.wanted o (yielded ops a.tmps) = true) (h : o.wpIn (Wd rd) 0 P a w K κ) : wpOpIn (Wd rd) 0 P ops κ i K a w := by
  unfold wpOpIn; simp only [hi, hw, if_true]; exact h
theorem wpOp_no {ops : Array Oper} {κ : Kont} {i : Nat} {o : Oper} {a : Act} {w : World} {K : Act → World → Prop} (hi : ops[i]? = some o) (hw : Region.wanted o (yielded ops a.tmps) = false) (h : K (a.put o.dst undef) w) : wpOpIn (Wd rd) 0 P ops κ i K a w := by
  unfold wpOpIn; simp only [hi, hw]; exact ⟨fun _ _ => trivial, h⟩
theorem vopOf_inv' {all : Array Oper} {o : Oper} {v : VOp} (h : vopOf P all o = some v) : ∃ ops, vop P o = some (v.op, ops) ∧ X.ofs ops = some v.xs ∧ (v.op.isCall = true → opIsCall o.op = true) ∧ v.dst = o.dst ∧
    ((o.guard = none ∧ v.g = none) ∨ ∃ j b g, o.guard = some (j, b) ∧ slotOf all j = some g ∧ v.g = some (g, b)) := by
  unfold vopOf at h
  obtain ⟨⟨vo, ops⟩, h1, h⟩ := Option.bind_eq_some_iff.1 h
  obtain ⟨xs, h2, h⟩ := Option.bind_eq_some_iff.1 h
  split at h
  · cases h
  · rename_i hne
    have hne : vo.isCall = true → opIsCall o.op = true := by simpa using hne
    split at h
    · cases h; exact ⟨ops, h1, h2, hne, rfl, .inl ⟨‹_›, rfl⟩⟩
    · obtain ⟨g, hg, rfl⟩ := Option.map_eq_some_iff.1 h
      exact ⟨ops, h1, h2, hne, rfl, .inr ⟨_, _, g, ‹_›, hg, rfl⟩⟩
theorem isCall_callee {o : VO} {xs : List SV} {r : FuncId × List SV} (h : callee E o xs = some r) : o.isCall = true := by
  unfold callee at h
  split at h <;> first | rfl | cases h
theorem beq_ne {m n o : Nat} (h : m ≠ n) : refs n (.ptr m o) = false := by
  show Nat.beq m n = false
  cases hb : Nat.beq m n with
  | false => rfl
  | true => exact absurd (Nat.eq_of_beq_eq_true hb) h
theorem purgeL_clean {b : Nat} : ∀ {l : List SV}, cleanL l = true → purgeL b l = l
  | [], _ => rfl
  | x :: l, h => by
    simp only [cleanL, Bool.and_eq_true] at h
    simp only [purgeL, purge_id (refs_clean h.1), purgeL_clean h.2]
theorem purge_clean {b : Nat} {z : AL} (h : z.clean = true) : purge1 b z.ho = z.ho := by
  cases z with
  | box c => simp only [AL.ho, purge1, purgeL_clean (show cleanL c = true from h)]
  | arr n sz c =>
    have : (fun k => purgeL b (chunk sz c k)) = chunk sz c := by
      funext k
      unfold chunk
      rw [← purgeL_take, ← purgeL_drop, purgeL_clean (show cleanL c = true from h)]
    simp only [AL.ho, purge1, this]
theorem purgeH_set (b : Nat) : ∀ (hp : List HO) (i : Nat) (h : HO), purgeH b (setH hp i h) = setH (purgeH b hp) i (purge1 b h)
  | [], _, _ => rfl
  | x :: l, 0, h => by cases x <;> cases h <;> rfl
  | x :: l, i + 1, h => by
    have := purgeH_set b l i h
    cases x <;> simp only [setH, purgeH, this]
theorem junkSlots_purge (b : Nat) (fr : List SV) : ∀ (Pd : List Pend), junkSlots (purgeL b fr) Pd = purgeL b (junkSlots fr Pd)
  | [] => rfl
  | p :: l => by rw [junkSlots, junkSlots, junkSlots_purge b fr l, purgeL_set]; rfl
theorem goneIdx_purge (b : Nat) (hp : List HO) : ∀ (Pd : List Pend), goneIdx (purgeH b hp) Pd = purgeH b (goneIdx hp Pd)
  | [] => rfl
  | p :: l => by rw [goneIdx, goneIdx, goneIdx_purge b hp l, purgeH_set]; rfl
theorem er_app {b : Nat} {ho : HO} (hne : ∀ p ∈ Pd, p.idx ≠ b) : er Pd (s.upd (.app b ho)) = (er Pd s).upd (.app b ho) := by
  simp only [er, S.upd]
  rw [junkSlots_purge, goneIdx_set hne, goneIdx_purge]
theorem readS_blk {hp hp' : List HO} {x : SV} (h : ∀ b, blk x = some b → getH hp' b = getH hp b) : readS hp' x = readS hp x := by
  cases x <;> try rfl
  case own i lo n sz => simp only [readS, h i rfl]
theorem append_blk {hp hp' : List HO} {n n' : Nat} (hn : n' = n) {o : VO} (ha : o.isAppend = true) {xs : List SV} (h : ∀ y ∈ xs, ∀ b, blk y = some b → getH hp' b = getH hp b) : eff hp' n' o xs = eff hp n o xs := by
  subst hn
  cases o <;> simp only [VO.isAppend, reduceCtorEq] at ha
  rcases xs with _ | ⟨a, _ | ⟨x, _ | ⟨c, l⟩⟩⟩ <;> try rfl
  have h1 := readS_blk (h x (by simp))
  have h2 := h a (by simp)
  cases a <;> try rfl
  · simp only [eff, eAppend, h1]
  · rename_i i lo n sz
    have := h2 i rfl
    cases lo with
    | zero => simp only [eff, eAppend, h1, this]
    | succ _ => rfl
  · rename_i y
    have := readS_blk (x := y) (fun b hb => h2 b hb)
    simp only [eff, eAppend, h1, this]
theorem rep_mem {w : World} {bs : List BK} {B : Bd} : ∀ {xs : List SV} {vs : List Value}, RepL w bs B xs vs → ∀ {y : SV}, y ∈ xs → ∃ v, Rep w bs B y v
  | _, _, .nil, y, hy => by cases hy
  | _, _, .cons x v l vs h h', y, hy => by
    rcases List.mem_cons.1 hy with rfl | hy
    · exact ⟨v, h⟩
    · exact rep_mem h' hy
theorem dop_sound (hE : EnvOk P E) {all : Array Oper} {o : Oper} {v : VOp} {i : Nat} (hi : all[i]? = some o) (hv : vopOf P all o = some v) (hs1 : ∀ p ∈ Pd, p.slot ∉ v.reads) (hs2 : ∀ p ∈ Pd, v.dst ≠ some p.slot)
    (hs3 : v.op.isAppend = true → ∀ p ∈ Pd, p.cells.clean = true) {κ : Kont} {a : Act} {sv : List Act} {w : World} (h : dopW E v A s) {c0 : Cx0} {ks : List (Nat × Obj)} {J : Nat → Option IK} {hJ : Ext c0 J} (hR : PR ⟨c0.wI J hJ, ks⟩ Pd s a sv w) :
    wpOpIn (Wd rd) 0 P all κ i (fun a' w' => ∃ s', A s' ∧ ∃ J', ∃ hJ' : Ext c0 J', PR ⟨c0.wI J' hJ', ks⟩ Pd s' a' sv w') a w := by
  obtain ⟨ops, h1, h2, h3, h4, h5⟩ := vopOf_inv' hv
  obtain ⟨hRl, hPd⟩ := hR
  obtain ⟨bs, hf, hsv, hH, hb, hoth⟩ := id hRl
  have hB : c0.heap.size ≤ w.heap.size := hb.size
  have hargs : (er Pd s).args v.xs = s.args v.xs := er_args fun p hp hm => hs1 p hp (by simp [VOp.reads, hm])
  have hx : RepL w bs (c0.wI J hJ).bd (s.args v.xs) (ops.map a.eval) := by rw [← hargs]; exact X_ofs hf h2
  have hlen : lenH (er Pd s).hp = lenH s.hp := lenH_gone Pd
  have hgs : ∀ g pol, v.g = some (g, pol) → getL (er Pd s).fr g = getL s.fr g := fun g pol hg => getL_junkSlots fun p hp e => hs1 p hp (by simp [VOp.reads, hg, e])
  have heq : ∀ (xs : List SV) (vs : List Value), v.op.quiet = true → RepL w bs (c0.wI J hJ).bd xs vs → eff (er Pd s).hp (lenH (er Pd s).hp) v.op xs = eff s.hp (lenH s.hp) v.op xs :=
    fun xs vs hq hxs => eff_blk hq fun b hb => (head_live hH hxs hb).2
  unfold dopW at h
  cases hq : v.op.quiet with
  | true =>
    rw [hq] at h
    simp only [quietW] at h
    cases hfe : fEff v s with
    | none => rw [hfe] at h; exact h.elim
    | some r =>
      obtain ⟨p, x⟩ := r
      rw [hfe] at h
      obtain ⟨hp, hA⟩ := h
      unfold fEff at hfe
      rcases h5 with ⟨hg, hvg⟩ | ⟨j, pol, g, hg, hsl, hvg⟩
      · rw [hvg] at hfe
        simp only at hfe
        cases he : eff s.hp (lenH s.hp) v.op (s.args v.xs) with
        | none => rw [he] at hfe; cases hfe
        | some e =>
          obtain ⟨q, y, u⟩ := e
          rw [he] at hfe
          cases u <;> try cases hfe
          rw [← heq _ _ hq hx] at he
          obtain ⟨r', val, w', bs', hrn, hr, k1, k2, k3, k4, k5⟩ := vop_ok (ρ := a.eval) h1 he hp hx (fun _ => rfl) (fun _ => rfl) hH hB
          refine wpOp_yes hi (by simp [Region.wanted, hg]) (wp_of_run (vop_nodefer h1) (hrn o.dst o.type o.pos o.after o.guard) hr ?_)
          refine ⟨_, hA, J, hJ, ?_, pend_put hs2 hPd⟩
          rw [er_put hs2, ← h4]
          exact upd_rel (e := ⟨p, x, .no⟩) (op := o.op) hf hsv hb hoth k1 k2 k3 k4 k5 v.dst
      · rw [hvg] at hfe
        simp only at hfe
        cases hgb : guardOf (getL s.fr g) pol with
        | none => rw [hgb] at hfe; cases hfe
        | some gb =>
          rw [hgb] at hfe
          simp only at hfe
          have hw := guard_ok (w := w) hf hg hsl (by rw [hgs g pol hvg]; exact hgb)
          cases he : eff s.hp (lenH s.hp) v.op (unoptsO v.op gb (s.args v.xs)).2 with
          | none => rw [he] at hfe; cases hfe
          | some e =>
            obtain ⟨q, y, u⟩ := e
            rw [he] at hfe
            cases u <;> try cases hfe
            obtain ⟨hp1, hp2⟩ := hp
            cases gb with
            | true =>
              have hx' := unoptsO_ok rfl hx hp1
              rw [← heq _ _ hq hx'] at he
              obtain ⟨r', val, w', bs', hrn, hr, k1, k2, k3, k4, k5⟩ := vop_ok (ρ := a.eval) h1 he (hp2 rfl) hx' (fun _ => rfl) (fun _ => rfl) hH hB
              refine wpOp_yes hi hw (wp_of_run (vop_nodefer h1) (hrn o.dst o.type o.pos o.after o.guard) hr ?_)
              refine ⟨_, hA, J, hJ, ?_, pend_put hs2 hPd⟩
              rw [er_put hs2, ← h4]
              exact upd_rel (e := ⟨q, .opt true y, .no⟩) (op := o.op) hf hsv hb hoth (.optT _ _ k1) k2 k3 k4 k5 v.dst
            | false =>
              refine wpOp_no hi hw ⟨_, hA, J, hJ, ?_, pend_put hs2 hPd⟩
              rw [er_put hs2, ← h4]
              exact put_rel hRl v.dst fun _ _ _ => .optF _
  | false =>
    rw [hq] at h
    simp only at h
    rcases h5 with ⟨hg, hvg⟩ | ⟨j, pol, g, hg, hsl, hvg⟩
    · rw [hvg] at h
      simp only at h
      unfold heavyW at h
      cases hc : callee E v.op (s.args v.xs) with
      | none =>
        rw [hc] at h
        simp only [psdW] at h
        have hlt := pend_lt hPd
        cases hps : psd v.op (s.args v.xs) with
        | some c =>
          rw [hps] at h
          obtain ⟨r, val, w', x, J2, hJ2, hrn, hr, hA, k1, k2, k3, k4⟩ := psd_ok (ρ := a.eval) h1 hps h hx hH
          refine wpOp_yes hi (by simp [Region.wanted, hg]) (wp_of_run (vop_nodefer h1) (hrn o.dst o.type o.pos o.after o.guard) hr ?_)
          obtain ⟨hJ3, hcr⟩ := call_rel (al := false) (z := Bd.cx (c0.wI J hJ).bd w) (w0 := c0) (J1 := J) (hJ1 := hJ) (hJ := hJ2) rfl hf hsv hH hb hoth v.dst k1 k2 k3 (fun _ => ⟨k4, trivial⟩) (fun h => by cases h)
          have hcr := hcr _ fun _ h => h
          have hPd' : ∀ p ∈ Pd, getH ({ fr := s.fr, saved := s.saved, hp := s.hp ++ shiftH (lenH s.hp) [] } : S).hp p.idx = p.cells.ho ∧ setL ({ fr := s.fr, saved := s.saved, hp := s.hp ++ shiftH (lenH s.hp) [] } : S).fr p.slot (.ptr p.idx 0) = ({ fr := s.fr, saved := s.saved, hp := s.hp ++ shiftH (lenH s.hp) [] } : S).fr := fun p hp =>
            ⟨by rw [← (hPd p hp).1]; exact grow_app _ _ _ (by rw [(hPd p hp).1]; exact AL.ho_ne _), (hPd p hp).2⟩
          refine ⟨_, hA, J2, hJ3, ?_, pend_put hs2 hPd'⟩
          rw [er_put hs2, ← h4]
          have : er Pd { fr := s.fr, saved := s.saved, hp := s.hp ++ shiftH (lenH s.hp) [] } = { fr := (er Pd s).fr, saved := (er Pd s).saved, hp := (er Pd s).hp ++ shiftH (lenH (er Pd s).hp) [] } := by
            rw [hlen]; simp only [er]; rw [goneIdx_app hlt]
          rw [this]
          rw [hlen] at hcr ⊢
          exact hcr
        | none =>
        rw [hps] at h
        simp only at h
        cases hbad : v.op.bad with
        | true => rw [hbad] at h; exact h.elim
        | false =>
        rw [hbad] at h
        simp only [badW, effW] at h
        cases he : eff s.hp (lenH s.hp) v.op (s.args v.xs) with
        | none => rw [he] at h; exact h.elim
        | some e =>
          rw [he] at h
          obtain ⟨hp, hA⟩ := h
          have he2 : eff (er Pd s).hp (lenH (er Pd s).hp) v.op (s.args v.xs) = some e := by
            rw [hlen, ← he]
            cases ha : v.op.isAppend with
            | true =>
              exact append_blk rfl ha fun y hy b hb => by
                obtain ⟨z, hz⟩ := rep_mem hx hy
                obtain ⟨k, h1, h2⟩ := blk_live hz hb
                exact (live_not hH h1 h2).2
            | false => exact heavy_blk hq ha hbad fun b hb => (head_live hH hx hb).2
          obtain ⟨r', val, w', bs', hrn, hr, k1, k2, k3, k4, k5⟩ := vop_ok (ρ := a.eval) h1 he2 hp hx (fun _ => rfl) (fun _ => rfl) hH hB
          refine wpOp_yes hi (by simp [Region.wanted, hg]) (wp_of_run (vop_nodefer h1) (hrn o.dst o.type o.pos o.after o.guard) hr ?_)
          have hrel := upd_rel (e := e) (op := o.op) hf hsv hb hoth k1 k2 k3 k4 k5 v.dst
          refine ⟨_, hA, J, hJ, ?_⟩
          cases ha : v.op.isAppend with
          | true =>
            have hcl := hs3 ha
            rcases app_upd ha he with ⟨ho, hu⟩ | ⟨b, ho, hu, hk⟩
            · rw [hu] at hrel ⊢
              have hlt := pend_lt hPd
              have hPd' : ∀ p ∈ Pd, getH (s.upd (.new ho)).hp p.idx = p.cells.ho ∧ setL (s.upd (.new ho)).fr p.slot (.ptr p.idx 0) = (s.upd (.new ho)).fr := fun p hp =>
                ⟨by rw [← (hPd p hp).1]; exact getH_snoc_lt _ _ _ (hlt p hp), (hPd p hp).2⟩
              refine ⟨?_, pend_put hs2 hPd'⟩
              rw [er_put hs2, ← h4]
              have : er Pd (s.upd (.new ho)) = (er Pd s).upd (.new ho) := by
                simp only [er, S.upd]; rw [goneIdx_snoc hlt]
              rw [this]; exact hrel
            · have hne := (head_live hH hx hk).1
              rw [hu] at hrel ⊢
              have hPd' : ∀ p ∈ Pd, getH (s.upd (.app b ho)).hp p.idx = p.cells.ho ∧ setL (s.upd (.app b ho)).fr p.slot (.ptr p.idx 0) = (s.upd (.app b ho)).fr := fun p hp => by
                refine ⟨?_, ?_⟩
                · show getH (setH (purgeH b s.hp) b ho) p.idx = _
                  rw [getH_set_ne _ _ _ _ (fun e => hne p hp e.symm), getH_purge, (hPd p hp).1, purge_clean (hcl p hp)]
                · show setL (purgeL b s.fr) p.slot (.ptr p.idx 0) = purgeL b s.fr
                  have e := congrArg (purgeL b) (hPd p hp).2
                  rw [purgeL_set, purge_id (beq_ne (hne p hp))] at e
                  exact e
              refine ⟨?_, pend_put hs2 hPd'⟩
              rw [er_put hs2, ← h4]
              have : er Pd (s.upd (.app b ho)) = (er Pd s).upd (.app b ho) := er_app hne
              rw [this]; exact hrel
          | false =>
            cases hst : v.op.isStore with
            | true =>
              obtain ⟨k, ho, hu, hk⟩ := store_upd hst he
              have hne := (head_live hH hx hk).1
              rw [hu] at hrel ⊢
              have hPd' : ∀ p ∈ Pd, getH (s.upd (.set k ho)).hp p.idx = p.cells.ho ∧ setL (s.upd (.set k ho)).fr p.slot (.ptr p.idx 0) = (s.upd (.set k ho)).fr := fun p hp =>
                ⟨by rw [← (hPd p hp).1]; exact getH_set_ne _ _ _ _ (fun e => hne p hp e.symm), (hPd p hp).2⟩
              refine ⟨?_, pend_put hs2 hPd'⟩
              rw [er_put hs2, ← h4]
              have : er Pd (s.upd (.set k ho)) = (er Pd s).upd (.set k ho) := by
                simp only [er, S.upd]; rw [goneIdx_set hne]
              rw [this]; exact hrel
            | false =>
              obtain ⟨ho, hu⟩ := new_upd hq hst ha hbad he
              rw [hu] at hrel ⊢
              have hlt := pend_lt hPd
              have hPd' : ∀ p ∈ Pd, getH (s.upd (.new ho)).hp p.idx = p.cells.ho ∧ setL (s.upd (.new ho)).fr p.slot (.ptr p.idx 0) = (s.upd (.new ho)).fr := fun p hp =>
                ⟨by rw [← (hPd p hp).1]; exact getH_snoc_lt _ _ _ (hlt p hp), (hPd p hp).2⟩
              refine ⟨?_, pend_put hs2 hPd'⟩
              rw [er_put hs2, ← h4]
              have : er Pd (s.upd (.new ho)) = (er Pd s).upd (.new ho) := by
                simp only [er, S.upd]; rw [goneIdx_snoc hlt]
              rw [this]; exact hrel
      | some fy =>
        obtain ⟨f, ys⟩ := fy
        rw [hc] at h
        simp only [ctW] at h
        cases hct : E.ct f with
        | none => rw [hct] at h; exact h.elim
        | some c =>
          rw [hct] at h
          obtain ⟨hok, hen⟩ := hE.ct f c hct
          obtain ⟨vs, hys, hrun⟩ := call_ok hE.meth h1 (h3 (isCall_callee hc)) hc hx (fun _ => rfl) hen
          refine wpOp_yes hi (by simp [Region.wanted, hg]) (wp_of_enter (vop_nodefer h1) hrun ?_)
          obtain ⟨z, hzw, hzI, hargs2, hal⟩ := callee_args c.alias (hpV hH) hB 3 hys h.1
          subst hzw
          refine (hok _ vs z _ (fun b K hb => (hH.reg b K (by rw [hzI] at hb; exact hb)).2) hargs2 h.2).mono ?_
          rintro e w' ⟨r, hs, val, bs2, J2, hJ2, hA, rfl, k1, k2, k3, k4⟩
          obtain ⟨hJ3, hcr⟩ := call_rel (w0 := c0) (J1 := J) (hJ1 := hJ) (hJ := hJ2) hzI hf hsv hH hb hoth v.dst k1 k2 k3 k4 hal
          have hcr := hcr _ fun _ h => h
          have hlt := pend_lt hPd
          have hPd' : ∀ p ∈ Pd, getH ({ fr := s.fr, saved := s.saved, hp := s.hp ++ shiftH (lenH s.hp) hs } : S).hp p.idx = p.cells.ho ∧ setL ({ fr := s.fr, saved := s.saved, hp := s.hp ++ shiftH (lenH s.hp) hs } : S).fr p.slot (.ptr p.idx 0) = ({ fr := s.fr, saved := s.saved, hp := s.hp ++ shiftH (lenH s.hp) hs } : S).fr := fun p hp =>
            ⟨by rw [← (hPd p hp).1]; exact grow_app _ _ _ (by rw [(hPd p hp).1]; exact AL.ho_ne _), (hPd p hp).2⟩
          refine ⟨_, hA, J2, hJ3, ?_, pend_put hs2 hPd'⟩
          rw [er_put hs2, ← h4]
          have : er Pd { fr := s.fr, saved := s.saved, hp := s.hp ++ shiftH (lenH s.hp) hs } = { fr := (er Pd s).fr, saved := (er Pd s).saved, hp := (er Pd s).hp ++ shiftH (lenH (er Pd s).hp) hs } := by
            rw [hlen]; simp only [er]; rw [goneIdx_app hlt]
          rw [this]
          rw [hlen] at hcr ⊢
          exact hcr
    · rw [hvg] at h
      simp only at h
      unfold heavyGW at h
      cases hgb : guardOf (getL s.fr g) pol with
      | none => rw [hgb] at h; exact h.elim
      | some gb =>
        rw [hgb] at h
        simp only [ctGW] at h
        have hw := guard_ok (w := w) hf hg hsl (by rw [hgs g pol hvg]; exact hgb)
        cases hct : ctOf E v.op (unoptsO v.op gb (s.args v.xs)).2 with
        | none => rw [hct] at h; exact h.elim
        | some c =>
          rw [hct] at h
          obtain ⟨c, ys⟩ := c
          obtain ⟨hp1, hno, r, hA, hcs⟩ := h
          cases gb with
          | false =>
            refine wpOp_no hi hw ⟨_, hA, J, hJ, ?_, pend_put hs2 hPd⟩
            rw [er_put hs2, ← h4]
            exact put_rel hRl v.dst fun _ _ _ => .optF _
          | true =>
            obtain ⟨f, hcl, hct', hic⟩ := ctOf_inv hct
            obtain ⟨hok, hen⟩ := hE.ct f c hct'
            obtain ⟨vs, hys, hrn⟩ := call_ok hE.meth h1 (h3 hic) hcl (unoptsO_ok rfl hx hp1) (fun _ => rfl) hen
            refine wpOp_yes hi hw (wp_of_enter (vop_nodefer h1) hrn ?_)
            obtain ⟨z, hzw, hzI, hargs2, hal⟩ := callee_args c.alias (hpV hH) hB 3 hys hno
            subst hzw
            refine (hok _ vs z _ (fun b K hb => (hH.reg b K (by rw [hzI] at hb; exact hb)).2) hargs2 (hcs rfl)).mono ?_
            rintro e w' ⟨r', hs, val, bs2, J2, hJ2, ⟨rfl, rfl⟩, rfl, k1, k2, k3, k4⟩
            obtain ⟨hJ3, hcr⟩ := call_rel (w0 := c0) (J1 := J) (hJ1 := hJ) (hJ := hJ2) hzI hf hsv hH hb hoth v.dst k1 k2 k3 k4 hal
            have hcr := hcr (.opt true (shift (lenH (er Pd s).hp) r')) fun _ h => .optT _ _ h
            have e0 : ({ fr := (er Pd s).fr, saved := (er Pd s).saved, hp := (er Pd s).hp ++ shiftH (lenH (er Pd s).hp) [] } : S) = er Pd s := by simp [shiftH]
            rw [e0] at hcr
            refine ⟨_, hA, J2, hJ3, ?_, pend_put hs2 hPd⟩
            rw [er_put hs2, ← h4, ← hlen]
            exact hcr
end
end Go.Vx
set_option linter.all false
namespace Go.Vx
open Go.RowKit
section
variable {P : Program} {E : Env} {w : World} {w0 : Cx} {rd : Option Nat} {Pd : List Pend} {A : S → Prop} {s : S} {bs : List BK} {B : Bd} {hp hp' : List HO}
theorem set_keeps {cs : Array Value} {T : TypeId} {cap n i : Nat} : Keeps w bs (World.push w (.cells cs T (0, 0))) (bs.set i (.blk w.heap.size cap n)) := by
  intro b hf o ho
  refine ⟨push_old ho, fun j b' c m h => ?_⟩
  have hb : b < w.heap.size := (Array.getElem?_eq_some_iff.1 ho).1
  rw [List.getElem?_set] at h
  split at h
  · split at h
    · cases h; omega
    · cases h
  · exact hf j b' c m h
theorem set_stays {i : Nat} {x : BK} {e : Option Nat} (hg : bs[i]? = some .gone ∨ bs[i]? = none) : Stays e bs (bs.set i x) := by
  intro j y _ h hy
  rw [List.getElem?_set]
  split
  · rename_i hij
    subst hij
    rcases hg with hg | hg
    · rw [hg] at h; cases h; exact absurd rfl hy
    · rw [hg] at h; cases h
  · exact h
theorem fill_hp (hH : Hp w bs B hp) (hB : B ≤ w.heap.size) {cs : Array Value} {T : TypeId} {i : Nat} {c0 m0 : Nat} (hi : i < lenH hp) (hg : getH hp i = .gone) (hl : lenH hp' = lenH hp) (hne : ∀ j, j ≠ i → getH hp' j = getH hp j)
    (h : HRep (World.push w (.cells cs T (0, 0))) (bs.set i (.blk w.heap.size c0 m0)) B i (getH hp' i)) :
    Hp (World.push w (.cells cs T (0, 0))) (bs.set i (.blk w.heap.size c0 m0)) B hp' := by
  have hlt : ∀ (i b c m : Nat), bs[i]? = some (.blk b c m) → b < w.heap.size := fun i b c m h => (hH.lo i b c m h).2
  have hgo : bs[i]? = some .gone ∨ bs[i]? = none := by have := hH.ent i; rw [hg] at this; exact this
  have hib : i < bs.length := by rw [hH.len]; exact hi
  refine ⟨by simp [hH.len, hl], fun j => ?_, fun j k b c m c' m' h1 h2 => ?_, fun j b c m h1 => ?_, reg_keep set_keeps hH.reg⟩
  · by_cases hij : j = i
    · subst hij; exact h
    · rw [hne j hij]
      refine (hH.ent j).keep set_keeps (set_stays hgo) ?_ ?_
      · rw [List.getElem?_set, if_neg (Ne.symm hij)]
      · intro b c m hb
        have := hlt j b c m hb
        simp only [World.push, Array.getElem?_push]
        rw [if_neg (by omega)]
  · rw [List.getElem?_set] at h1 h2
    split at h1 <;> split at h2
    · omega
    · first | (rw [if_pos hib] at h1; cases h1) | cases h1
      have := hlt k _ _ _ h2; omega
    · first | (rw [if_pos hib] at h2; cases h2) | cases h2
      have := hlt j _ _ _ h1; omega
    · exact hH.inj j k b c m c' m' h1 h2
  · have hs : (World.push w (.cells cs T (0, 0))).heap.size = w.heap.size + 1 := by simp [World.push]
    rw [List.getElem?_set] at h1
    split at h1
    · first | (rw [if_pos hib] at h1; cases h1) | cases h1; omega
    · have := hH.lo j b c m h1; omega
theorem setL_setL : ∀ (l : List SV) (n : Nat) (x y : SV), setL (setL l n x) n y = setL l n y
  | [], _, _, _ => rfl
  | _ :: _, 0, _, _ => rfl
  | a :: l, n + 1, x, y => congrArg (a :: ·) (setL_setL l n x y)
def AL.is (P : Program) (elem : TypeId) : AL → Prop
  | .box z => zeroOf P elem = some z
  | .arr n size z => zeroOf P elem = some z ∧ lenL z = n * size
def AL.z : AL → List SV
  | .box z => z
  | .arr _ _ z => z
def AL.n : AL → Nat
  | .box _ => 0
  | .arr n _ _ => n
theorem AL.is_z {elem : TypeId} : ∀ {x : AL}, x.is P elem → zeroOf P elem = some x.z
  | .box _, h => h
  | .arr _ _ _, h => h.1
theorem alloc_step {p : Pend} {o : Oper} {elem : TypeId} {i : Nat} {all : Array Oper} (hi : all[i]? = some o) (hop : o.op = .alloc elem) (hgd : o.guard = none) (hz : p.cells.is P elem) (hdst : o.dst = some p.slot)
    (hidx : ∀ q ∈ Pd, q.idx ≠ p.idx) (hslot : ∀ q ∈ Pd, q.slot ≠ p.slot) {κ : Kont} {a : Act} {sv : List Act} {K : Act → World → Prop}
    (hR : PR w0 (p :: Pd) s a sv w) (h : ∀ a' w', PR w0 Pd s a' sv w' → K a' w') : wpOpIn (Wd rd) 0 P all κ i K a w := by
  obtain ⟨⟨bs, hf, hsv, hH, hb, hoth⟩, hPd⟩ := hR
  have hB : w0.heap.size ≤ w.heap.size := hb.size
  obtain ⟨v, hv, hr⟩ := run_zeroValue (P := P) (w := w) (bs := bs) (B := w0.bd) (AL.is_z hz)
  obtain ⟨hp1, hp2⟩ := hPd p List.mem_cons_self
  have hlt : p.idx < lenH s.hp := pend_lt hPd p List.mem_cons_self
  have hg : getH (goneIdx s.hp (p :: Pd)) p.idx = .gone := getH_gone_eq List.mem_cons_self
  have hgo : bs[p.idx]? = some .gone ∨ bs[p.idx]? = none := by have := hH.ent p.idx; simp only [er] at this; rw [hg] at this; exact this
  have hlen : bs.length = lenH s.hp := by rw [hH.len]; exact lenH_gone _
  have hget : (bs.set p.idx (BK.blk w.heap.size p.cells.n p.cells.n))[p.idx]? = some (.blk w.heap.size p.cells.n p.cells.n) := by
    rw [List.getElem?_set, if_pos rfl, if_pos (by omega)]
  have hst : ∀ e, Stays e bs (bs.set p.idx (.blk w.heap.size p.cells.n p.cells.n)) := fun e => set_stays hgo
  have hrun : (execOp a.eval o).run P w = .ok (.value (.pointer (some ⟨w.heap.size, 0, none⟩))) (World.push w (.cells v.cells elem (0, 0))) := by
    obtain ⟨dst, op, type, pos, after, guard⟩ := o
    simp only at hop
    subst hop
    simp [execOp, Instr.alloc, hv, newVar, newRow, World.push]
  refine wpOp_yes hi (by simp [Region.wanted, hgd]) (wp_of_run (by rw [hop]; intro c h; cases h) hrun (.inl rfl) (h _ _ ⟨⟨bs.set p.idx (.blk w.heap.size p.cells.n p.cells.n), ?_, ?_, ?_, ?_, by rw [List.map_cons, put_defers']; exact hoth.keep set_keeps⟩, fun q hq => hPd q (List.mem_cons_of_mem _ hq)⟩))
  · have hfr : (er Pd s).fr = (S.put (er (p :: Pd) s) (some p.slot) (.ptr p.idx 0)).fr := by
      simp only [er, S.put, junkSlots, setL_setL]
      rw [← junkSlots_set hslot, hp2]
    rw [hfr, hdst]
    exact put_rep (hf.keep set_keeps (hst none) noRefL_none) (.ptr _ _ _ _ hget)
  · exact RepLL.keep set_keeps (hst none) hsv
  · refine fill_hp hH hB (by simp only [er]; rw [lenH_gone]; exact hlt) hg (by simp only [er]; rw [lenH_gone, lenH_gone]) (fun j hj => ?_) ?_
    · simp only [er, goneIdx]
      rw [getH_set_ne _ _ _ _ (Ne.symm hj)]
    · simp only [er]
      rw [getH_gone_ne hidx, hp1]
      revert hget hst hz hr
      cases p.cells with
      | box z => exact fun hz hr hget hst => ⟨_, _, _, hget, push_new, hr.keep set_keeps (hst none) noRefL_none⟩
      | arr n size z =>
        intro hz hr hget hst
        refine .inr ⟨_, n, _, _, hget, rfl, push_new, ?_, Nat.le_refl _, fun k _ => chunk_ok (hr.keep set_keeps (hst none) noRefL_none) size k⟩
        show _ = n * size
        have hl := hz.2
        have hl2 := hr.length
        simp only [AL.z] at hl2
        rw [← hl, hl2]; simp
  · exact hb.trans (.of (push_below (B := w0.bd) _ hB))
end
end Go.Vx
set_option linter.all false
namespace Go.Vx
open Go.RowKit
section
variable {P : Program} {E : Env} {w : World} {w0 : Cx} {rd : Option Nat} {Pd Pd' : List Pend} {A : S → Prop} {s : S} {bs : List BK} {B : Bd} {hp hp' : List HO}
theorem keeps_gone : Keeps w bs w (bs ++ [.gone]) := by
  intro b hf o ho
  refine ⟨ho, fun i b' c m h => ?_⟩
  rw [List.getElem?_append] at h
  split at h
  · exact hf i b' c m h
  · rw [List.getElem?_singleton] at h; split at h <;> cases h
theorem gone_hp (hH : Hp w bs B hp) : Hp w (bs ++ [.gone]) B (snocH hp .gone) := by
  have hst : ∀ e, Stays e bs (bs ++ [.gone]) := fun e => push_stays _ _
  have hget : ∀ (i b c m : Nat), (bs ++ [BK.gone])[i]? = some (.blk b c m) → bs[i]? = some (.blk b c m) := by
    intro i b c m h
    rw [List.getElem?_append] at h
    split at h
    · exact h
    · rw [List.getElem?_singleton] at h; split at h <;> cases h
  refine ⟨by simp [hH.len, lenH_snoc], fun i => ?_, fun i j b c m c' m' h1 h2 => hH.inj i j b c m c' m' (hget _ _ _ _ h1) (hget _ _ _ _ h2), fun i b c m h1 => hH.lo i b c m (hget _ _ _ _ h1), reg_keep keeps_gone hH.reg⟩
  rcases Nat.lt_trichotomy i (lenH hp) with hi | hi | hi
  · rw [getH_snoc_lt _ _ _ hi]
    exact (hH.ent i).keep keeps_gone (hst _) (by rw [List.getElem?_append_left (by rw [hH.len]; exact hi)]) (fun _ _ _ _ => rfl)
  · subst hi; rw [getH_snoc_eq]; exact .inl (last_get hH)
  · rw [getH_ge _ _ (by rw [lenH_snoc]; omega)]
    right
    rw [List.getElem?_eq_none]; simp [hH.len]; omega
theorem RepL.junkAt : ∀ {l : List SV} {vs : List Value} (_ : RepL w bs B l vs) (n : Nat), RepL w bs B (setL l n .junk) vs
  | _, _, .nil, n => by cases n <;> exact .nil
  | _, _, .cons _ _ _ _ _ h', 0 => .cons _ _ _ _ (.x _ _ (.junk _)) h'
  | _, _, .cons _ _ _ _ h h', n + 1 => .cons _ _ _ _ h (RepL.junkAt h' n)
theorem setH_snoc_eq : ∀ (l : List HO) (x y : HO), setH (snocH l x) (lenH l) y = snocH l y
  | [], _, _ => rfl
  | a :: l, x, y => congrArg (a :: ·) (setH_snoc_eq l x y)
theorem pend_new {a : Act} {sv : List Act} (hR : PR w0 Pd s a sv w) {d : Nat} {z : AL} (hd : ∀ q ∈ Pd, q.slot ≠ d) :
    PR w0 (⟨lenH s.hp, d, z⟩ :: Pd) ((s.upd (.new z.ho)).put (some d) (.ptr (lenH s.hp) 0)) a sv w := by
  obtain ⟨⟨bs, hf, hsv, hH, hb, hoth⟩, hPd⟩ := hR
  have hlt := pend_lt hPd
  refine ⟨⟨bs ++ [.gone], ?_, ?_, ?_, hb, hoth.keep keeps_gone⟩, fun p hp => ?_⟩
  · have e : (er (⟨lenH s.hp, d, z⟩ :: Pd) ((s.upd (.new z.ho)).put (some d) (.ptr (lenH s.hp) 0))).fr = setL (er Pd s).fr d .junk := by
      show setL (junkSlots (setL s.fr d (.ptr (lenH s.hp) 0)) Pd) d .junk = setL (junkSlots s.fr Pd) d .junk
      rw [junkSlots_set hd, setL_setL]
    rw [e]
    exact (hf.junkAt d).keep keeps_gone (push_stays _ none) noRefL_none
  · exact RepLL.keep keeps_gone (push_stays _ none) hsv
  · have e : (er (⟨lenH s.hp, d, z⟩ :: Pd) ((s.upd (.new z.ho)).put (some d) (.ptr (lenH s.hp) 0))).hp = snocH (er Pd s).hp .gone := by
      show setH (goneIdx (snocH s.hp z.ho) Pd) (lenH s.hp) .gone = snocH (goneIdx s.hp Pd) .gone
      rw [goneIdx_snoc hlt]
      have := setH_snoc_eq (goneIdx s.hp Pd) z.ho .gone
      rw [lenH_gone] at this
      exact this
    rw [e]
    exact gone_hp hH
  · rcases List.mem_cons.1 hp with rfl | hp
    · exact ⟨getH_snoc_eq _ _, setL_setL _ _ _ _⟩
    · refine ⟨?_, ?_⟩
      · show getH (snocH s.hp z.ho) p.idx = _
        rw [getH_snoc_lt _ _ _ (hlt p hp)]; exact (hPd p hp).1
      · show setL (setL s.fr d _) p.slot _ = setL s.fr d _
        rw [setL_comm _ _ _ _ _ (fun e => hd p hp e.symm), (hPd p hp).2]
def pends : Nat → List (Nat × AL) → List Pend → List Pend
  | _, [], Pd => Pd
  | n, (d, z) :: l, Pd => pends (n + 1) l (⟨n, d, z⟩ :: Pd)
def distinct : List (Nat × AL) → List Nat → Bool
  | [], _ => true
  | (d, _) :: l, ds => !ds.contains d && distinct l (d :: ds)
theorem pend_all {a : Act} {sv : List Act} : ∀ (al : List (Nat × AL)) (Pd : List Pend) (s : S), distinct al (Pd.map (·.slot)) = true → PR w0 Pd s a sv w → PR w0 (pends (lenH s.hp) al Pd) (runAl s al) a sv w
  | [], _, _, _, h => h
  | (d, z) :: l, Pd, s, hdis, h => by
    simp only [distinct, Bool.and_eq_true, Bool.not_eq_true'] at hdis
    have hd : ∀ q ∈ Pd, q.slot ≠ d := by
      intro q hq he
      have : (Pd.map (·.slot)).contains d = true := by
        rw [List.contains_iff_mem, List.mem_map]; exact ⟨q, hq, he⟩
      rw [hdis.1] at this; cases this
    have := pend_all l (⟨lenH s.hp, d, z⟩ :: Pd) _ (by simpa using hdis.2) (pend_new h (z := z) hd)
    have hl : lenH ((s.upd (.new z.ho)).put (some d) (.ptr (lenH s.hp) 0)).hp = lenH s.hp + 1 := lenH_snoc _ _
    rw [hl] at this
    exact this
theorem pr_nil {a : Act} {sv : List Act} (h : Rl w0 s a sv w) : PR w0 [] s a sv w := ⟨h, fun _ hp => by cases hp⟩
theorem er_swap (p q : Pend) (l : List Pend) : er (p :: q :: l) s = er (q :: p :: l) s := by
  have h1 : ∀ (fr : List SV), setL (setL fr q.slot .junk) p.slot .junk = setL (setL fr p.slot .junk) q.slot .junk := fun fr => by
    by_cases h : q.slot = p.slot
    · rw [h]
    · exact setL_comm _ _ _ _ _ h
  have h2 : ∀ (hp : List HO), setH (setH hp q.idx .gone) p.idx .gone = setH (setH hp p.idx .gone) q.idx .gone := fun hp => by
    by_cases h : q.idx = p.idx
    · rw [h]
    · exact setH_comm _ _ _ _ _ h
  simp only [er, junkSlots, goneIdx, h1, h2]
theorem er_cons (p : Pend) {l l' : List Pend} (h : er l s = er l' s) : er (p :: l) s = er (p :: l') s := by
  simp only [er, S.mk.injEq, true_and] at h
  simp only [er, junkSlots, goneIdx, h.1, h.2]
theorem er_perm (h : Pd.Perm Pd') : er Pd s = er Pd' s := by
  induction h with
  | nil => rfl
  | cons p _ ih => exact er_cons p ih
  | swap p q l => exact er_swap q p l
  | trans _ _ ih1 ih2 => exact ih1.trans ih2
theorem pr_perm {a : Act} {sv : List Act} (h : Pd.Perm Pd') (hR : PR w0 Pd s a sv w) : PR w0 Pd' s a sv w :=
  ⟨by rw [← er_perm h]; exact hR.1, fun p hp => hR.2 p (h.mem_iff.2 hp)⟩
end
end Go.Vx
set_option linter.all false
namespace Go.Vx
open Go.RowKit
def pendOf (sil : List (Nat × Pend)) (L : Array Bool) : List Pend :=
  match sil with
  | [] => []
  | x :: r => bif L.getD x.1 false then pendOf r L else x.2 :: pendOf r L
theorem mem_pendOf {p : Pend} {L : Array Bool} : ∀ {sil : List (Nat × Pend)}, p ∈ pendOf sil L ↔ ∃ k, (k, p) ∈ sil ∧ L.getD k false = false
  | [] => by simp [pendOf]
  | x :: r => by
    unfold pendOf
    cases hl : L.getD x.1 false with
    | true =>
      simp only [cond_true]
      rw [mem_pendOf (sil := r)]
      constructor
      · rintro ⟨k, h1, h2⟩; exact ⟨k, List.mem_cons_of_mem _ h1, h2⟩
      · rintro ⟨k, h1, h2⟩
        rcases List.mem_cons.1 h1 with rfl | h1
        · rw [hl] at h2; cases h2
        · exact ⟨k, h1, h2⟩
    | false =>
      simp only [cond_false, List.mem_cons]
      rw [mem_pendOf (sil := r)]
      constructor
      · rintro (rfl | ⟨k, h1, h2⟩)
        · exact ⟨x.1, .inl rfl, hl⟩
        · exact ⟨k, .inr h1, h2⟩
      · rintro ⟨k, rfl | h1, h2⟩
        · exact .inl rfl
        · exact .inr ⟨k, h1, h2⟩
theorem pendOf_same {L : Array Bool} {i : Nat} : ∀ {sil : List (Nat × Pend)}, (∀ p, (i, p) ∉ sil) → pendOf sil (L.setIfInBounds i true) = pendOf sil L
  | [], _ => rfl
  | x :: r, h => by
    unfold pendOf
    have hx : i ≠ x.1 := by
      intro e
      exact h x.2 (by rw [e]; exact List.mem_cons_self)
    rw [getD_set_ne false hx, pendOf_same (sil := r) fun p hp => h p (List.mem_cons_of_mem _ hp)]
theorem pendOf_perm {L : Array Bool} {i : Nat} {p : Pend} (hi : i < L.size) (hl : L.getD i false = false) : ∀ {sil : List (Nat × Pend)}, (sil.map (·.1)).Nodup → (i, p) ∈ sil → (pendOf sil L).Perm (p :: pendOf sil (L.setIfInBounds i true))
  | x :: r, hn, hm => by
    rw [List.map_cons, List.nodup_cons] at hn
    by_cases hx : x.1 = i
    · have hp : x = (i, p) := by
        rcases List.mem_cons.1 hm with rfl | hm
        · rfl
        · exact absurd (List.mem_map.2 ⟨_, hm, hx.symm⟩) hn.1
      subst hp
      have hr : ∀ q, (i, q) ∉ r := fun q hq => hn.1 (List.mem_map.2 ⟨_, hq, rfl⟩)
      unfold pendOf
      simp only [hl, cond_false]
      have : (L.setIfInBounds i true).getD i false = true := by simp [hi]
      rw [this, pendOf_same hr]
      exact List.Perm.refl _
    · have hm' : (i, p) ∈ r := by
        rcases List.mem_cons.1 hm with rfl | hm
        · exact absurd rfl hx
        · exact hm
      have ih := pendOf_perm hi hl hn.2 hm'
      unfold pendOf
      rw [getD_set_ne false (Ne.symm hx)]
      cases L.getD x.1 false with
      | true => exact ih
      | false => exact (List.Perm.cons _ ih).trans (List.Perm.swap _ _ _)
theorem pendOf_none {n : Nat} : ∀ {sil : List (Nat × Pend)}, pendOf sil (Array.replicate n false) = sil.map (·.2)
  | [] => rfl
  | x :: r => by
    unfold pendOf
    have : (Array.replicate n false).getD x.1 false = false := by
      rcases Nat.lt_or_ge x.1 n with h' | h'
      · simp [h']
      · simp [Array.getElem?_eq_none, h']
    rw [this, pendOf_none (sil := r)]
    rfl
theorem all_listed {md : Region.Mode} {ops : Array Oper} (hb : ∀ (i : Nat) (o : Oper), ops[i]? = some o → ∀ e ∈ o.after, Region.binds md e = true → e.on < i) {L : Array Bool} (hd : Down md ops L) (hr : Region.ready md ops L = []) :
    ∀ (N i : Nat), i < N → i < ops.size → L.getD i false = true
  | N + 1, i, hi, hn => by
    cases hl : L.getD i false with
    | true => rfl
    | false =>
      have ho : ops[i]? = some ops[i] := Array.getElem?_eq_getElem hn
      have hL : i < L.size := by rw [hd.1]; exact hn
      have : i ∈ Region.ready md ops L := mem_ready.2 ⟨by simp [hL] at hl ⊢; exact hl, _, ho, fun e he hbi => by
        have := hb i _ ho e he hbi
        exact all_listed hb hd hr N e.on (by omega) (by omega)⟩
      rw [hr] at this; cases this
section
variable {P : Program} {E : Env} {G : VOp → (S → Prop) → S → Prop} {w0 : Cx} {rd : Option Nat} {all : Array Oper} {tab : List DT} {sil : List (Nat × Pend)} {clo : Nat → Nat → Bool} {md : Region.Mode}
structure RegOk (P : Program) (all : Array Oper) (tab : List DT) (sil : List (Nat × Pend)) (clo : Nat → Nat → Bool) : Prop where
  nodup : (sil.map (·.1)).Nodup
  apart : ∀ x ∈ sil, ∀ y ∈ sil, x.1 ≠ y.1 → x.2.slot ≠ y.2.slot ∧ x.2.idx ≠ y.2.idx
  silent : ∀ (i d : Nat), tab[i]? = some (.silent d) → ∃ p o elem, (i, p) ∈ sil ∧ all[i]? = some o ∧ o.op = .alloc elem ∧ o.guard = none ∧ p.cells.is P elem ∧ o.dst = some p.slot
  op : ∀ (i : Nat) (v : VOp) (chk : List (Nat × X)), tab[i]? = some (.op v chk) → (∀ p, (i, p) ∉ sil) ∧ (∃ o, all[i]? = some o ∧ vopOf P all o = some v) ∧
    ∀ x ∈ sil, (clo i x.1 = true ∨ (x.2.slot ∉ v.reads ∧ (v.op.isAppend = true → x.2.cells.clean = true))) ∧ v.dst ≠ some x.2.slot
  loud : ∀ (i : Nat) (v : VOp), tab[i]? = some (.loud v) → sil = [] ∧ ∃ o, all[i]? = some o ∧ vopOf P all o = some v
structure LoudOk (P : Program) (G : VOp → (S → Prop) → S → Prop) (rd : Option Nat) (all : Array Oper) (κ : Kont) (c0 : Cx0) (ks : List (Nat × Obj)) (sv : List Act) : Prop where
  mono : ∀ v (A B : S → Prop) s, (∀ s, A s → B s) → G v A s → G v B s
  ok : ∀ {i : Nat} {o : Oper} {v : VOp} {A : S → Prop} {s : S}, all[i]? = some o → vopOf P all o = some v → G v A s → ∀ {J : Nat → Option IK} {hJ : Ext c0 J} {a : Act} {w : World}, Rl ⟨c0.wI J hJ, ks⟩ s a sv w →
    wpOpIn (Wd rd) 0 P all κ i (fun a' w' => ∃ s', A s' ∧ ∃ J', ∃ hJ' : Ext c0 J', Rl ⟨c0.wI J' hJ', ks⟩ s' a' sv w') a w
theorem hop (hE : EnvOk P E) (hc : CloOk md all clo) (hr : RegOk P all tab sil clo) {c0 : Cx0} {ks : List (Nat × Obj)} {κ : Kont} {sv : List Act} (hG : LoudOk P G rd all κ c0 ks sv) (i : Nat) (L : Array Bool) (s : S) (A : S → Prop) (a : Act) (w : World)
    (hi : i ∈ Region.ready md all L) (h : stepD E G tab i L A s) (hR : Down md all L ∧ ∃ J, ∃ hJ : Ext c0 J, PR ⟨c0.wI J hJ, ks⟩ (pendOf sil L) s a sv w) :
    wpOpIn (Wd rd) 0 P all κ i (fun a' w' => ∃ s', A s' ∧ (Down md all (L.setIfInBounds i true) ∧ ∃ J, ∃ hJ : Ext c0 J, PR ⟨c0.wI J hJ, ks⟩ (pendOf sil (L.setIfInBounds i true)) s' a' sv w')) a w := by
  obtain ⟨hd, J, hJ, hR⟩ := hR
  have hd' := hd.set hi
  unfold stepD at h
  cases ht : tab[i]? with
  | none => rw [ht] at h; exact h.elim
  | some t =>
    rw [ht] at h
    cases t with
    | silent d =>
      obtain ⟨p, o, elem, hm, ho, hop, hg, hz, hdst⟩ := hr.silent i d ht
      have hsz : i < L.size := by rw [hd.1]; exact (Array.getElem?_eq_some_iff.1 ho).1
      have hR' := pr_perm (pendOf_perm hsz (ready_not hi) hr.nodup hm) hR
      have hap : ∀ q ∈ pendOf sil (L.setIfInBounds i true), q.slot ≠ p.slot ∧ q.idx ≠ p.idx := by
        intro q hq
        obtain ⟨k, hk, hkl⟩ := mem_pendOf.1 hq
        refine hr.apart (k, q) hk (i, p) hm ?_
        rintro (rfl : k = i)
        simp [hsz] at hkl
      exact alloc_step ho hop hg hz hdst (fun q hq => (hap q hq).2) (fun q hq => (hap q hq).1) hR' fun a' w' h' => ⟨s, h, hd', J, hJ, h'⟩
    | op v chk =>
      obtain ⟨hns, ⟨o, ho, hv⟩, hst⟩ := hr.op i v chk ht
      have hpend : ∀ p ∈ pendOf sil L, (p.slot ∉ v.reads ∧ (v.op.isAppend = true → p.cells.clean = true)) ∧ v.dst ≠ some p.slot := by
        intro p hp
        obtain ⟨k, hk, hkl⟩ := mem_pendOf.1 hp
        obtain ⟨h1, h2⟩ := hst (k, p) hk
        refine ⟨h1.resolve_left fun hck => ?_, h2⟩
        have := hc.ready L i k hd hi hck
        rw [hkl] at this; cases this
      refine wpOpIn_mono (fun a' w' ⟨s', h1, J', hJ', h2⟩ => ⟨s', h1, hd', J', hJ', by rw [pendOf_same hns]; exact h2⟩) (dop_sound hE ho hv (fun p hp => (hpend p hp).1.1) (fun p hp => (hpend p hp).2) (fun ha p hp => (hpend p hp).1.2 ha) h.2 hR)
    | loud v =>
      obtain ⟨hsil, o, ho, hv⟩ := hr.loud i v ht
      have hpe : ∀ L, pendOf sil L = [] := fun L => by rw [hsil]; rfl
      rw [hpe] at hR
      simp only [hpe]
      rcases h with h | h
      · exact wpOpIn_mono (fun a' w' ⟨s', h1, J', hJ', h2⟩ => ⟨s', h1, hd', J', hJ', h2⟩) (dop_sound hE ho hv (fun p hp => (by cases hp)) (fun p hp => (by cases hp)) (fun ha p hp => (by cases hp)) h hR)
      · exact wpOpIn_mono (fun a' w' ⟨s', h1, J', hJ', h2⟩ => ⟨s', h1, hd', J', hJ', pr_nil h2⟩) (hG.ok ho hv h hR.1)
theorem region_sound (hE : EnvOk P E) (hm : P.follows .mixedOrders = true) {cl : List Nat} (hl : cl.length = all.size) (hcl : closOk (directs .any all) cl all.size = true) (hr : RegOk P all tab sil (cloOf cl)) {free : Nat → Bool}
    (hfree : ∀ i, free i = true → (∃ d, tab[i]? = some (.silent d)) ∨ ∃ v, tab[i]? = some (.op v []) ∧ v.op.quiet = true ∧ ∀ (j : Nat) (t : DT), tab[j]? = some t → commB (cloOf cl) i v j t = true)
    {K : S → Prop} {κ : Kont} {s : S} {a : Act} {sv : List Act} {w : World} {id : Nat}
    (h : (∀ (j : Nat) (L : Array Bool) (s : S) (A B : S → Prop), (∀ s, A s → B s) → stepD E G tab j L A s → stepD E G tab j L B s) → (∀ i L s, free i = true → ¬ stepD E G tab i L (fun _ => False) s) →
      (∀ (i : Nat), free i = true → ∀ (j : Nat) (L : Array Bool) (s : S) (A : S → Prop), Down .any all L → i ∈ Region.ready .any all L → j ∈ Region.ready .any all L → j ≠ i → stepD E G tab i L (stepD E G tab j (L.setIfInBounds i true) A) s → stepD E G tab j L (stepD E G tab i (L.setIfInBounds j true) A) s) →
      anyS (stepD E G tab) K .any all all.size (Array.replicate all.size false) s) {c0 : Cx0} {ks : List (Nat × Obj)} {J : Nat → Option IK} {hJ : Ext c0 J} (hG : LoudOk P G rd all κ c0 ks sv) (hR : PR ⟨c0.wI J hJ, ks⟩ (sil.map (·.2)) s a sv { w with drawn := w.drawn + 1 }) (hK : ∀ s a w J (hJ : Ext c0 J), K s → Rl ⟨c0.wI J hJ, ks⟩ s a sv w → κ .normal a w) (hall : ∀ x ∈ sil, x.1 < all.size) (hbel : ∀ (i : Nat) (o : Oper), all[i]? = some o → ∀ e ∈ o.after, Region.binds .any e = true → e.on < i) : (Code.region id all true).wpIn (Wd rd) 0 P κ a w := by
  have hc := clo_ok hl hcl
  refine wpIn_region_any hm ?_
  have hany := h (stepD_mono hG.mono) ?_ ?_
  · refine anyS_sound (step := stepD E G tab) (K := K) (P := P) (Q := κ) (fun L s a w => Down .any all L ∧ ∃ J, ∃ hJ : Ext c0 J, PR ⟨c0.wI J hJ, ks⟩ (pendOf sil L) s a sv w) (fun i L s A a w hi hs hR => hop hE hc hr hG i L s A a w hi hs hR) ?_ _ _ s a _ hany ⟨down_none, J, hJ, ?_⟩
    · rintro L s a w hr0 hKs ⟨hd, J, hJ, hPR⟩
      have : pendOf sil L = [] := by
        cases hp : pendOf sil L with
        | nil => rfl
        | cons p r =>
          obtain ⟨k, hk, hkl⟩ := mem_pendOf.1 (show p ∈ pendOf sil L by rw [hp]; exact List.mem_cons_self)
          have := all_listed hbel hd hr0 (k + 1) k (by omega) (hall _ hk)
          rw [hkl] at this; cases this
      rw [this] at hPR
      exact hK s a w J hJ hKs hPR.1
    · rw [pendOf_none]; exact hR
  · intro i L s hf hstep
    rcases hfree i hf with ⟨d, ht⟩ | ⟨v, ht, hq, _⟩
    · unfold stepD at hstep; rw [ht] at hstep; exact hstep
    · unfold stepD at hstep; rw [ht] at hstep; exact dopW_strict hq hstep.2
  · intro i hf j L s A hd hri hrj hji hs
    rcases hfree i hf with ⟨d, ht⟩ | ⟨v, ht, hq, hcm⟩
    · have hsi : ∀ (L : Array Bool) (A : S → Prop) (s : S), stepD E G tab i L A s = A s := by
        intro L A s; unfold stepD; rw [ht]
      rw [hsi] at hs
      refine stepD_mono hG.mono j L s _ _ (fun s' hs' => by rw [hsi]; exact hs') ?_
      unfold stepD at hs ⊢
      cases htj : tab[j]? with
      | none => rw [htj] at hs; exact hs
      | some t =>
        rw [htj] at hs
        cases t with
        | silent d => exact hs
        | op u chk => exact ⟨fun c hcm hcl => hs.1 c hcm (getD_set_true hcl), hs.2⟩
        | loud u => exact hs
    · exact stepD_exch hc ht hq hcm j L s A hd hri hrj hji hs
theorem rl_drawn {s : S} {a : Act} {sv : List Act} {w : World} (h : Rl w0 s a sv w) (n : Nat) : Rl w0 s a sv { w with drawn := n } := by
  obtain ⟨bs, hf, hsv, hH, hb, hoth⟩ := h
  have hk : Keeps w bs { w with drawn := n } bs := fun b hf o ho => ⟨ho, hf⟩
  have hst : Stays none bs bs := fun _ _ _ h _ => h
  exact ⟨bs, hf.keep hk hst noRefL_none, hsv.keep hk hst, ⟨hH.len, fun i => (hH.ent i).keep hk hst rfl (fun _ _ _ _ => rfl), hH.inj, hH.lo, reg_keep hk hH.reg⟩, ⟨hb.os, hb.tape, hb.output, hb.size, hb.block⟩, hoth.keep hk⟩
end
end Go.Vx
set_option linter.all false
namespace Go.Vx
open Go.RowKit
def entryOf (lf : FuncId → Bool) (clo : Nat → Nat → Bool) (all : List VOp) (v : VOp) (j : Nat) : DT :=
  match silentOf v with
  | some (d, _) => .silent d
  | none => bif loudV lf v then .loud v else .op v (bif v.op.isStore then chkOf clo j all 0 else bif v.op.isAppend then apkOf clo j all 0 else [])
theorem tabOf_get {lf : FuncId → Bool} {clo : Nat → Nat → Bool} {all : List VOp} : ∀ (l : List VOp) (j i : Nat), (tabOf lf clo all l j)[i]? = (l[i]?).map fun v => entryOf lf clo all v (j + i)
  | [], _, _ => by simp [tabOf]
  | v :: l, j, 0 => by
    simp only [tabOf, List.getElem?_cons_zero, Option.map_some, Nat.add_zero, entryOf]
    cases silentOf v <;> rfl
  | v :: l, j, i + 1 => by
    simp only [tabOf, List.getElem?_cons_succ]
    rw [tabOf_get l (j + 1) i]
    congr 1
    funext v
    rw [show j + 1 + i = j + (i + 1) by omega]
theorem mem_silOf {k d : Nat} {z : AL} : ∀ {l : List VOp} {j : Nat}, (k, d, z) ∈ silOf l j ↔ ∃ i v, l[i]? = some v ∧ k = j + i ∧ silentOf v = some (d, z)
  | [], j => by simp [silOf]
  | v :: l, j => by
    have ih := mem_silOf (k := k) (d := d) (z := z) (l := l) (j := j + 1)
    unfold silOf
    cases hs : silentOf v with
    | none =>
      simp only
      rw [ih]
      constructor
      · rintro ⟨i, u, h1, h2, h3⟩; exact ⟨i + 1, u, by simpa using h1, by omega, h3⟩
      · rintro ⟨i, u, h1, h2, h3⟩
        cases i with
        | zero => simp only [List.getElem?_cons_zero, Option.some.injEq] at h1; subst h1; rw [hs] at h3; cases h3
        | succ i => exact ⟨i, u, by simpa using h1, by omega, h3⟩
    | some r =>
      obtain ⟨d', z'⟩ := r
      simp only [List.mem_cons]
      rw [ih]
      constructor
      · rintro (h | ⟨i, u, h1, h2, h3⟩)
        · cases h; exact ⟨0, v, rfl, rfl, hs⟩
        · exact ⟨i + 1, u, by simpa using h1, by omega, h3⟩
      · rintro ⟨i, u, h1, h2, h3⟩
        cases i with
        | zero => simp only [List.getElem?_cons_zero, Option.some.injEq] at h1; subst h1; rw [hs] at h3; cases h3; left; rw [h2]; rfl
        | succ i => exact .inr ⟨i, u, by simpa using h1, by omega, h3⟩
theorem vopsOf_get {P : Program} {all : Array Oper} : ∀ {rest : List Oper} {vs : List VOp}, vopsOf P all rest = some vs → ∀ (i : Nat) (v : VOp), vs[i]? = some v → ∃ o, rest[i]? = some o ∧ vopOf P all o = some v
  | [], vs, h, i, v, hv => by simp only [vopsOf, Option.some.injEq] at h; subst h; simp at hv
  | o :: l, vs, h, i, v, hv => by
    simp only [vopsOf] at h
    obtain ⟨x, hx, h⟩ := Option.bind_eq_some_iff.1 h
    obtain ⟨y, hy, rfl⟩ := Option.map_eq_some_iff.1 h
    cases i with
    | zero => simp only [List.getElem?_cons_zero, Option.some.injEq] at hv; subst hv; exact ⟨o, rfl, hx⟩
    | succ i => exact vopsOf_get hy i v (by simpa using hv)
theorem commAll_at {clo : Nat → Nat → Bool} {i : Nat} {v : VOp} : ∀ {l : List DT} {j : Nat}, commAll clo i v l j = true → ∀ (k : Nat) (t : DT), l[k]? = some t → commB clo i v (j + k) t = true
  | t :: l, j, h, 0, u, hu => by
    simp only [commAll, Bool.and_eq_true] at h
    simp only [List.getElem?_cons_zero, Option.some.injEq] at hu; subst hu; exact h.1
  | t :: l, j, h, k + 1, u, hu => by
    simp only [commAll, Bool.and_eq_true] at h
    have := commAll_at h.2 k u (by simpa using hu)
    rw [show j + 1 + k = j + (k + 1) by omega] at this
    exact this
end Go.Vx
set_option linter.all false
namespace Go.Vx
open Go.RowKit
theorem lenE_eq : ∀ l : List SV, lenE l = lenL l
  | [] => rfl
  | _ :: l => congrArg (· + 1) (lenE_eq l)
def AL.op : AL → VO
  | .box z => .alloc z
  | .arr n size z => .allocArr n size z
def AL.ok : AL → Prop
  | .box _ => True
  | .arr n size z => lenL z = n * size
theorem silentOf_inv {v : VOp} {d : Nat} {z : AL} (h : silentOf v = some (d, z)) : v.dst = some d ∧ v.g = none ∧ v.op = z.op ∧ z.ok := by
  unfold silentOf at h
  split at h
  · cases h; exact ⟨rfl, rfl, rfl, trivial⟩
  · rename_i n size z' _
    cases hb : Nat.beq (lenE z') (n * size) with
    | true => rw [hb] at h; cases h; exact ⟨rfl, rfl, rfl, (lenE_eq z').symm.trans (Nat.eq_of_beq_eq_true hb)⟩
    | false => rw [hb] at h; cases h
  · cases h
theorem vop_alloc' {P : Program} {o : Oper} {z : AL} {ops : List Operand} {elem : TypeId} (ho : o.op = .alloc elem) (h : vop P o = some (AL.op z, ops)) (hk : AL.ok z) : z.is P elem := by
  obtain ⟨dst, op, type, pos, after, guard⟩ := o
  simp only at ho
  subst ho
  unfold vop at h
  simp only at h
  split at h
  · obtain ⟨_, hz, h⟩ := Option.bind_eq_some_iff.1 h
    obtain ⟨_, _, h⟩ := Option.map_eq_some_iff.1 h
    cases z <;> cases h
    exact ⟨hz, hk⟩
  · obtain ⟨_, hz, h⟩ := Option.map_eq_some_iff.1 h
    cases z <;> cases h
    exact hz
theorem allocOk_at : ∀ {os : List Oper} {vs : List VOp}, allocOk os vs = true → ∀ (i : Nat) (o : Oper) (v : VOp), os[i]? = some o → vs[i]? = some v → (silentOf v).isSome = true → ∃ e, o.op = .alloc e
  | [], _, _, i, o, v, h, _, _ => by simp at h
  | _ :: _, [], _, i, o, v, _, h, _ => by simp at h
  | o' :: os, v' :: vs, h, 0, o, v, h1, h2, h3 => by
    simp only [List.getElem?_cons_zero, Option.some.injEq] at h1 h2
    subst h1; subst h2
    simp only [allocOk, Bool.and_eq_true] at h
    have h := h.1
    cases hs : silentOf v' with
    | none => rw [hs] at h3; cases h3
    | some x =>
      rw [hs] at h
      simp only at h
      split at h
      · exact ⟨_, ‹_›⟩
      · cases h
  | o' :: os, v' :: vs, h, i + 1, o, v, h1, h2, h3 => by
    simp only [allocOk, Bool.and_eq_true] at h
    exact allocOk_at h.2 i o v (by simpa using h1) (by simpa using h2) h3
def silP : Nat → List (Nat × Nat × AL) → List (Nat × Pend)
  | _, [] => []
  | n, (j, d, z) :: l => (j, ⟨n, d, z⟩) :: silP (n + 1) l
theorem mem_silP {j : Nat} {p : Pend} : ∀ {l : List (Nat × Nat × AL)} {n : Nat}, (j, p) ∈ silP n l → n ≤ p.idx ∧ (j, p.slot, p.cells) ∈ l
  | [], _, h => by cases h
  | (j', d, z) :: l, n, h => by
    rcases List.mem_cons.1 h with h | h
    · cases h; exact ⟨Nat.le_refl _, List.mem_cons_self⟩
    · have := mem_silP h; exact ⟨by omega, List.mem_cons_of_mem _ this.2⟩
theorem silP_mem {j d : Nat} {z : AL} : ∀ {l : List (Nat × Nat × AL)} {n : Nat}, (j, d, z) ∈ l → ∃ p, (j, p) ∈ silP n l ∧ p.slot = d ∧ p.cells = z
  | [], _, h => by cases h
  | (j', d', z') :: l, n, h => by
    rcases List.mem_cons.1 h with h | h
    · cases h; exact ⟨_, List.mem_cons_self, rfl, rfl⟩
    · obtain ⟨p, h1, h2⟩ := silP_mem (n := n + 1) h
      exact ⟨p, List.mem_cons_of_mem _ h1, h2⟩
theorem silP_fst : ∀ {l : List (Nat × Nat × AL)} {n : Nat}, (silP n l).map (·.1) = l.map (·.1)
  | [], _ => rfl
  | (j, d, z) :: l, n => by simp only [silP, List.map_cons, silP_fst]
theorem silOf_ge {x : Nat × Nat × AL} {l : List VOp} {j : Nat} (h : x ∈ silOf l j) : j ≤ x.1 := by
  obtain ⟨k, d, z⟩ := x
  obtain ⟨i, v, _, h2, _⟩ := mem_silOf.1 h
  simp only; omega
theorem silOf_nodup : ∀ {l : List VOp} {j : Nat}, ((silOf l j).map (·.1)).Nodup
  | [], _ => .nil
  | v :: l, j => by
    unfold silOf
    cases silentOf v with
    | none => exact silOf_nodup
    | some r =>
      obtain ⟨d, z⟩ := r
      simp only [List.map_cons, List.nodup_cons]
      refine ⟨fun h => ?_, silOf_nodup⟩
      obtain ⟨x, hx, h⟩ := List.mem_map.1 h
      have := silOf_ge hx; omega
theorem distinctB_nodup : ∀ {l : List Nat}, distinctB l = true → l.Nodup
  | [], _ => .nil
  | d :: l, h => by
    simp only [distinctB, Bool.and_eq_true, Bool.not_eq_true'] at h
    rw [List.nodup_cons]
    refine ⟨fun hm => ?_, distinctB_nodup h.2⟩
    have : l.contains d = true := by rw [List.contains_iff_mem]; exact hm
    rw [h.1] at this; cases this
theorem silP_apart : ∀ {l : List (Nat × Nat × AL)} {n : Nat}, (l.map (·.2.1)).Nodup → ∀ x ∈ silP n l, ∀ y ∈ silP n l, x.1 ≠ y.1 → x.2.slot ≠ y.2.slot ∧ x.2.idx ≠ y.2.idx
  | [], _, _, x, hx, _, _, _ => by cases hx
  | (j, d, z) :: l, n, hn, x, hx, y, hy, hxy => by
    simp only [List.map_cons, List.nodup_cons] at hn
    have key : ∀ u ∈ silP (n + 1) l, u.2.slot ≠ d ∧ u.2.idx ≠ n := by
      rintro ⟨k, p⟩ hu
      obtain ⟨h1, h2⟩ := mem_silP hu
      refine ⟨fun e => hn.1 (List.mem_map.2 ⟨_, h2, e⟩), ?_⟩
      simp only; omega
    rcases List.mem_cons.1 hx with rfl | hx <;> rcases List.mem_cons.1 hy with rfl | hy
    · exact absurd rfl hxy
    · exact ⟨fun e => (key y hy).1 e.symm, fun e => (key y hy).2 e.symm⟩
    · exact key x hx
    · exact silP_apart hn.2 x hx y hy hxy
theorem pends_perm : ∀ {l : List (Nat × Nat × AL)} {n : Nat} {Pd : List Pend}, (pends n (l.map (·.2)) Pd).Perm ((silP n l).map (·.2) ++ Pd)
  | [], _, _ => List.Perm.refl _
  | (j, d, z) :: l, n, Pd => by
    simp only [List.map_cons, pends, silP, List.cons_append]
    exact pends_perm.trans List.perm_middle
theorem distinct_of {al : List (Nat × AL)} : ∀ {ds : List Nat}, (al.map (·.1)).Nodup → (∀ d ∈ al.map (·.1), d ∉ ds) → distinct al ds = true := by
  induction al with
  | nil => intros; rfl
  | cons x al ih =>
    obtain ⟨d, z⟩ := x
    intro ds hn hd
    simp only [List.map_cons, List.nodup_cons] at hn
    simp only [distinct, Bool.and_eq_true, Bool.not_eq_true']
    refine ⟨?_, ih hn.2 fun e he hm => ?_⟩
    · cases hc : ds.contains d with
      | false => rfl
      | true => rw [List.contains_iff_mem] at hc; exact absurd hc (hd d (by simp))
    · rcases List.mem_cons.1 hm with rfl | hm
      · exact hn.1 he
      · exact hd e (by simp only [List.map_cons, List.mem_cons]; exact .inr he) hm
theorem silOk_at {clo : Nat → Nat → Bool} {sil : List (Nat × Nat × AL)} : ∀ {l : List DT} {j : Nat}, silOk clo sil l j = true → ∀ (k : Nat) (v : VOp) (chk : List (Nat × X)), l[k]? = some (.op v chk) →
    ∀ x ∈ sil, (clo (j + k) x.1 = true ∨ (x.2.1 ∉ v.reads ∧ (v.op.isAppend = true → x.2.2.clean = true))) ∧ v.dst ≠ some x.2.1
  | [], _, _, k, v, chk, h, _, _ => by simp at h
  | .silent _ :: l, j, h, 0, v, chk, hk, _, _ => by simp at hk
  | .silent _ :: l, j, h, k + 1, v, chk, hk, x, hx => by
    have := silOk_at (l := l) (j := j + 1) h k v chk (by simpa using hk) x hx
    rwa [show j + 1 + k = j + (k + 1) by omega] at this
  | .loud _ :: l, j, h, 0, v, chk, hk, _, _ => by simp at hk
  | .loud _ :: l, j, h, k + 1, v, chk, hk, x, hx => by
    simp only [silOk, Bool.and_eq_true] at h
    have := silOk_at (l := l) (j := j + 1) h.2 k v chk (by simpa using hk) x hx
    rwa [show j + 1 + k = j + (k + 1) by omega] at this
  | .op u c :: l, j, h, 0, v, chk, hk, x, hx => by
    simp only [List.getElem?_cons_zero, Option.some.injEq, DT.op.injEq] at hk
    obtain ⟨rfl, rfl⟩ := hk
    simp only [silOk, Bool.and_eq_true, List.all_eq_true] at h
    have := h.1 x hx
    simp only [Bool.or_eq_true, Bool.and_eq_true, Bool.not_eq_true'] at this
    refine ⟨?_, ?_⟩
    · rcases this.1 with h1 | ⟨h1, h2⟩
      · exact .inl h1
      · exact .inr ⟨fun hm => absurd ((List.contains_iff_mem (a := x.2.1)).2 hm) (by rw [h1]; simp), fun ha => by rcases h2 with h2 | h2; (rw [ha] at h2; cases h2); exact h2⟩
    · intro e
      have := this.2
      rw [e] at this
      simp at this
  | .op u c :: l, j, h, k + 1, v, chk, hk, x, hx => by
    simp only [silOk, Bool.and_eq_true] at h
    have := silOk_at (l := l) (j := j + 1) h.2 k v chk (by simpa using hk) x hx
    rwa [show j + 1 + k = j + (k + 1) by omega] at this
theorem silOk_loud {clo : Nat → Nat → Bool} {sil : List (Nat × Nat × AL)} : ∀ {l : List DT} {j : Nat}, silOk clo sil l j = true → ∀ (k : Nat) (v : VOp), l[k]? = some (.loud v) → sil = []
  | [], _, _, k, v, h => by simp at h
  | .silent _ :: l, j, h, 0, v, hk => by simp at hk
  | .silent _ :: l, j, h, k + 1, v, hk => silOk_loud (l := l) (j := j + 1) h k v (by simpa using hk)
  | .op u c :: l, j, h, 0, v, hk => by simp at hk
  | .op u c :: l, j, h, k + 1, v, hk => by
    simp only [silOk, Bool.and_eq_true] at h
    exact silOk_loud (l := l) (j := j + 1) h.2 k v (by simpa using hk)
  | .loud _ :: l, j, h, 0, v, hk => by
    simp only [silOk, Bool.and_eq_true] at h
    have h := h.1
    split at h
    · rfl
    · cases h
  | .loud _ :: l, j, h, k + 1, v, hk => by
    simp only [silOk, Bool.and_eq_true] at h
    exact silOk_loud (l := l) (j := j + 1) h.2 k v (by simpa using hk)
theorem belowOk_at : ∀ {l : List Nat} {j : Nat}, belowOk l j = true → ∀ k, l.getD k 0 < 2 ^ (j + k)
  | [], j, _, k => by simp; exact Nat.two_pow_pos _
  | m :: l, j, h, 0 => by
    simp only [belowOk, Bool.and_eq_true] at h
    have := h.1
    simp only [Nat.blt_eq] at this
    simpa using this
  | m :: l, j, h, k + 1 => by
    simp only [belowOk, Bool.and_eq_true] at h
    have := belowOk_at h.2 k
    rw [show j + 1 + k = j + (k + 1) by omega] at this
    simpa using this
theorem frees_at {clo : Nat → Nat → Bool} {tab : List DT} : ∀ (n j i : Nat), (frees clo tab n j).getD i false = true → freeB clo tab (j + i) = true
  | 0, _, _, h => by simp [frees] at h
  | n + 1, j, 0, h => by simpa [frees] using h
  | n + 1, j, i + 1, h => by
    have := frees_at (clo := clo) (tab := tab) n (j + 1) i (by simpa [frees] using h)
    rwa [show j + 1 + i = j + (i + 1) by omega] at this
theorem vopsOf_length {P : Program} {all : Array Oper} : ∀ {rest : List Oper} {vs : List VOp}, vopsOf P all rest = some vs → vs.length = rest.length
  | [], vs, h => by simp only [vopsOf, Option.some.injEq] at h; subst h; rfl
  | o :: l, vs, h => by
    simp only [vopsOf] at h
    obtain ⟨x, hx, h⟩ := Option.bind_eq_some_iff.1 h
    obtain ⟨y, hy, rfl⟩ := Option.map_eq_some_iff.1 h
    simp [vopsOf_length hy]
def OT.all : OT → List Nat
  | .nil => []
  | .op i t => i :: t.all
  | .br a b => a.all ++ b.all
def dopsP (E : Env) (G : VOp → (S → Prop) → S → Prop) (A : S → Prop) : List DOp → S → Prop
  | [], s => A s
  | ⟨v, chk⟩ :: l, s => chkG v.op.isAppend s (s.x (headX v.xs)) chk ∧ (dopW E v (dopsP E G A l) s ∨ G v (dopsP E G A l) s)
def dtrP (E : Env) (G : VOp → (S → Prop) → S → Prop) (A : S → Prop) : DTr → S → Prop
  | .leaf, s => A s
  | .ops l t, s => dopsP E G (dtrP E G A t) l s
  | .br a b, s => dtrP E G A a s ∧ dtrP E G A b s
theorem chkA_at {s : S} {y : SV} : ∀ {l : List X}, chkA s y l → ∀ x ∈ l, napP (s.x x) y
  | x :: l, h, z, hz => by
    rcases List.mem_cons.1 hz with rfl | hz
    · exact h.1
    · exact chkA_at h.2 z hz
theorem chkP_at {s : S} {y : SV} : ∀ {l : List X}, chkP s y l → ∀ x ∈ l, apartP (s.x x) y
  | x :: l, h, z, hz => by
    rcases List.mem_cons.1 hz with rfl | hz
    · exact h.1
    · exact chkP_at h.2 z hz
theorem chkG_at {ap : Bool} {s : S} {y : SV} {l : List X} (h : chkG ap s y l) (x : X) (hx : x ∈ l) : chk1 ap (s.x x) y := by
  cases ap with
  | false => exact chkP_at h x hx
  | true => exact chkA_at h x hx
theorem seqS_of {E : Env} {G : VOp → (S → Prop) → S → Prop} {A : S → Prop} {tab : List DT} (hGm : ∀ v (A B : S → Prop) s, (∀ s, A s → B s) → G v A s → G v B s) (hGn : ∀ (i : Nat) (v : VOp) (chk : List (Nat × X)) (A : S → Prop) (s : S), tab[i]? = some (.op v chk) → ¬ G v A s) :
    ∀ {order : List Nat} {L : Array Bool} {s : S}, (∀ i ∈ order, i < tab.length) → dopsP E G A (dopOf tab order) s → seqS (stepD E G tab) A order L s
  | [], _, _, _, h => h
  | i :: order, L, s, hi, h => by
    have hlt := hi i List.mem_cons_self
    unfold dopOf at h
    unfold seqS stepD
    cases ht : tab[i]? with
    | none => rw [List.getElem?_eq_none_iff] at ht; omega
    | some t =>
      rw [ht] at h
      cases t with
      | silent d => exact seqS_of hGm hGn (fun j hj => hi j (List.mem_cons_of_mem _ hj)) h
      | op v chk =>
        simp only at h ⊢
        refine ⟨fun c hc _ => chkG_at h.1 c.2 (List.mem_map.2 ⟨c, hc, rfl⟩), dopW_mono (fun s' h' => seqS_of hGm hGn (fun j hj => hi j (List.mem_cons_of_mem _ hj)) h') (h.2.resolve_right (hGn i v chk _ _ ht))⟩
      | loud v =>
        simp only at h ⊢
        exact h.2.imp (dopW_mono fun s' h' => seqS_of hGm hGn (fun j hj => hi j (List.mem_cons_of_mem _ hj)) h') (hGm v _ _ s fun s' h' => seqS_of hGm hGn (fun j hj => hi j (List.mem_cons_of_mem _ hj)) h')
theorem treeS_of {E : Env} {G : VOp → (S → Prop) → S → Prop} {A : S → Prop} {tab : List DT} (hGm : ∀ v (A B : S → Prop) s, (∀ s, A s → B s) → G v A s → G v B s) (hGn : ∀ (i : Nat) (v : VOp) (chk : List (Nat × X)) (A : S → Prop) (s : S), tab[i]? = some (.op v chk) → ¬ G v A s) :
    ∀ {t : OT} {L : Array Bool} {s : S}, (∀ i ∈ t.all, i < tab.length) → dtrP E G A (dtrOf tab t) s → treeS (stepD E G tab) A t L s
  | .nil, _, _, _, h => h
  | .op i t, L, s, hi, h => by
    have hlt := hi i (by simp [OT.all])
    have hr : ∀ j ∈ t.all, j < tab.length := fun j hj => hi j (by simp [OT.all, hj])
    unfold dtrOf dtrP dopOf at h
    unfold treeS stepD
    cases ht : tab[i]? with
    | none => rw [List.getElem?_eq_none_iff] at ht; omega
    | some x =>
      rw [ht] at h
      cases x with
      | silent d => exact treeS_of hGm hGn hr h
      | op v chk =>
        simp only [dopsP] at h ⊢
        refine ⟨fun c hc _ => chkG_at h.1 c.2 (List.mem_map.2 ⟨c, hc, rfl⟩), dopW_mono (fun s' h' => treeS_of hGm hGn hr h') (h.2.resolve_right (hGn i v chk _ _ ht))⟩
      | loud v =>
        simp only [dopsP] at h ⊢
        exact h.2.imp (dopW_mono fun s' h' => treeS_of hGm hGn hr h') (hGm v _ _ s fun s' h' => treeS_of hGm hGn hr h')
  | .br a b, L, s, hi, h => ⟨treeS_of hGm hGn (fun j hj => hi j (by simp [OT.all, hj])) h.1, treeS_of hGm hGn (fun j hj => hi j (by simp [OT.all, hj])) h.2⟩
theorem treeB_lt {free : Nat → Bool} {dm : List Nat} {n : Nat} : ∀ {t : OT} {m : Nat} {ex : Bool}, treeB free dm n t m ex = true → ∀ i ∈ t.all, i < n
  | .op i t, m, ex, h, j, hj => by
    simp only [treeB, Bool.and_eq_true] at h
    rcases List.mem_cons.1 hj with rfl | hj
    · have := Nat.le_of_ble_eq_true h.1.1.1; omega
    · exact treeB_lt h.2 j hj
  | .br a b, m, ex, h, j, hj => by
    simp only [treeB, Bool.and_eq_true] at h
    rcases List.mem_append.1 hj with hj | hj
    · exact treeB_lt h.1.2 j hj
    · exact treeB_lt h.2 j hj
theorem seqB_lt {free : Nat → Bool} {dm : List Nat} {n : Nat} : ∀ {l : List Nat} {m : Nat}, seqB free dm n l m = true → ∀ i ∈ l, i < n
  | i :: l, m, h, j, hj => by
    simp only [seqB, Bool.and_eq_true] at h
    rcases List.mem_cons.1 hj with rfl | hj
    · have := Nat.le_of_ble_eq_true h.1.1.1; omega
    · exact seqB_lt h.2 j hj
section
variable {P : Program} {E : Env} {G : VOp → (S → Prop) → S → Prop} {w0 : Cx} {rd : Option Nat}
theorem draw_any (hE : EnvOk P E) (hm : P.follows .mixedOrders = true) {ops : Array Oper} {vs : List VOp} (hvs : vopsOf P ops ops.toList = some vs) (c0 : allocOk ops.toList vs = true) (c1 : Nat.beq (clos (directs .any ops)).length ops.size = true) (c2 : closOk (directs .any ops) (clos (directs .any ops)) ops.size = true) (c3 : belowOk (directs .any ops) 0 = true)
    (c4 : silOk (cloOf (clos (directs .any ops))) (silOf vs 0) (tabOf (loudF P) (cloOf (clos (directs .any ops))) vs vs 0) 0 = true) (c5 : distinctB ((silOf vs 0).map (·.2.1)) = true) {A : S → Prop} {κ : Kont} {s : S} {a : Act} {sv : List Act} {w : World} {id : Nat}
    (h : ∀ s0, s0 = runAl s ((silOf vs 0).map (·.2)) → (∀ (j : Nat) (L : Array Bool) (s : S) (A B : S → Prop), (∀ s, A s → B s) → stepD E G (tabOf (loudF P) (cloOf (clos (directs .any ops))) vs vs 0) j L A s → stepD E G (tabOf (loudF P) (cloOf (clos (directs .any ops))) vs vs 0) j L B s) →
      (∀ i L s, (frees (cloOf (clos (directs .any ops))) (tabOf (loudF P) (cloOf (clos (directs .any ops))) vs vs 0) ops.size 0).getD i false = true → ¬ stepD E G (tabOf (loudF P) (cloOf (clos (directs .any ops))) vs vs 0) i L (fun _ => False) s) →
      (∀ (i : Nat), (frees (cloOf (clos (directs .any ops))) (tabOf (loudF P) (cloOf (clos (directs .any ops))) vs vs 0) ops.size 0).getD i false = true → ∀ (j : Nat) (L : Array Bool) (s : S) (A : S → Prop), Down .any ops L → i ∈ Region.ready .any ops L → j ∈ Region.ready .any ops L → j ≠ i → stepD E G (tabOf (loudF P) (cloOf (clos (directs .any ops))) vs vs 0) i L (stepD E G (tabOf (loudF P) (cloOf (clos (directs .any ops))) vs vs 0) j (L.setIfInBounds i true) A) s → stepD E G (tabOf (loudF P) (cloOf (clos (directs .any ops))) vs vs 0) j L (stepD E G (tabOf (loudF P) (cloOf (clos (directs .any ops))) vs vs 0) i (L.setIfInBounds j true) A) s) →
      anyS (stepD E G (tabOf (loudF P) (cloOf (clos (directs .any ops))) vs vs 0)) A .any ops ops.size (Array.replicate ops.size false) s0) {cx : Cx0} {ks : List (Nat × Obj)} {J : Nat → Option IK} {hJ : Ext cx J} (hG : LoudOk P G rd ops κ cx ks sv) (hGn : ∀ v A s, G v A s → loudV (loudF P) v = true) (hR : Rl ⟨cx.wI J hJ, ks⟩ s a sv w) (hK : ∀ s a w J (hJ : Ext cx J), A s → Rl ⟨cx.wI J hJ, ks⟩ s a sv w → κ .normal a w) : (Code.region id ops true).wpIn (Wd rd) 0 P κ a w := by
  have hlen : vs.length = ops.size := by rw [vopsOf_length hvs]; simp
  have htl : ∀ (clo : Nat → Nat → Bool) (l : List VOp) (j : Nat), (tabOf (loudF P) clo vs l j).length = l.length := by
    intro clo l
    induction l with
    | nil => intro j; rfl
    | cons v l ih => intro j; simp only [tabOf, List.length_cons, ih]
  have hsn : ((silOf vs 0).map (·.2.1)).Nodup := distinctB_nodup c5
  have hget : ∀ (i : Nat) (v : VOp), vs[i]? = some v → ∃ o, ops[i]? = some o ∧ vopOf P ops o = some v := by
    intro i v hv
    obtain ⟨o, h1, h2⟩ := vopsOf_get hvs i v hv
    exact ⟨o, by simpa using h1, h2⟩
  have hok : RegOk P ops (tabOf (loudF P) (cloOf (clos (directs .any ops))) vs vs 0) (silP (lenH s.hp) (silOf vs 0)) (cloOf (clos (directs .any ops))) := by
    refine ⟨by rw [silP_fst]; exact silOf_nodup, silP_apart hsn, fun i d ht => ?_, fun i v chk ht => ?_, fun i v ht => ?_⟩
    · rw [tabOf_get] at ht
      obtain ⟨v, hv, he⟩ := Option.map_eq_some_iff.1 ht
      unfold entryOf at he
      cases hs : silentOf v with
      | none => rw [hs] at he; simp only at he; cases hl : loudV (loudF P) v <;> rw [hl] at he <;> cases he
      | some x =>
        obtain ⟨d', z⟩ := x
        rw [hs] at he; cases he
        obtain ⟨o, ho, hvo⟩ := hget i v hv
        obtain ⟨e, hop⟩ := allocOk_at c0 i o v (by simpa using ho) hv (by rw [hs]; rfl)
        obtain ⟨g1, g2, g3, g4⟩ := silentOf_inv hs
        obtain ⟨xs, k1, k2, k3, k4, k5⟩ := vopOf_inv' hvo
        obtain ⟨p, hp, hp1, hp2⟩ := silP_mem (n := lenH s.hp) (mem_silOf.2 ⟨i, v, hv, by omega, hs⟩ : (i, d, z) ∈ silOf vs 0)
        refine ⟨p, o, e, hp, ho, hop, ?_, ?_, ?_⟩
        · rcases k5 with k5 | ⟨_, _, _, _, _, k5⟩
          · exact k5.1
          · rw [g2] at k5; cases k5
        · rw [g3] at k1; rw [hp2]; exact vop_alloc' hop k1 g4
        · rw [← k4, g1, hp1]
    · rw [tabOf_get] at ht
      obtain ⟨u, hu, he⟩ := Option.map_eq_some_iff.1 ht
      unfold entryOf at he
      cases hs : silentOf u with
      | some x => rw [hs] at he; cases he
      | none =>
        rw [hs] at he
        simp only at he
        cases hl : loudV (loudF P) u with
        | true => rw [hl] at he; cases he
        | false =>
        rw [hl] at he
        simp only [cond_false, DT.op.injEq] at he
        obtain ⟨rfl, hchk⟩ := he
        refine ⟨fun p hp => ?_, hget i u hu, fun x hx => ?_⟩
        · obtain ⟨_, hm⟩ := mem_silP hp
          obtain ⟨i', v', h1, h2, h3⟩ := mem_silOf.1 hm
          have : i' = i := by omega
          subst this
          rw [hu] at h1; cases h1
          rw [hs] at h3; cases h3
        · obtain ⟨k, p⟩ := x
          have := silOk_at c4 i u chk (by rw [tabOf_get, hu]; simp [entryOf, hs, hl, ← hchk]) (k, p.slot, p.cells) (mem_silP hx).2
          simpa using this
    · have hsl := silOk_loud c4 i v ht
      rw [tabOf_get] at ht
      obtain ⟨u, hu, he⟩ := Option.map_eq_some_iff.1 ht
      refine ⟨by rw [hsl]; rfl, ?_⟩
      have : u = v := by
        unfold entryOf at he
        cases hs : silentOf u with
        | some x => rw [hs] at he; cases he
        | none =>
          rw [hs] at he
          simp only at he
          cases hl : loudV (loudF P) u <;> rw [hl] at he <;> cases he
          rfl
      subst this
      exact hget i u hu
  refine region_sound (J := J) (hJ := hJ) (free := fun i => (frees (cloOf (clos (directs .any ops))) (tabOf (loudF P) (cloOf (clos (directs .any ops))) vs vs 0) ops.size 0).getD i false) hE hm (Nat.eq_of_beq_eq_true c1) c2 hok (fun i hi => ?_)
    (h _ rfl) hG ?_ hK (fun x hx => ?_) (fun i o ho e he hb => ?_)
  · have := frees_at _ _ _ hi
    rw [Nat.zero_add] at this
    unfold freeB at this
    split at this
    · exact .inl ⟨_, ‹_›⟩
    · rename_i v hv
      simp only [Bool.and_eq_true] at this
      refine .inr ⟨v, hv, this.1, fun j t ht => ?_⟩
      have := commAll_at this.2 j t ht
      rwa [Nat.zero_add] at this
    · cases this
  · have h0 := pend_all (w0 := ⟨cx.wI J hJ, ks⟩) ((silOf vs 0).map (·.2)) [] s (distinct_of (by rw [List.map_map]; exact hsn) (fun _ _ => by simp)) (pr_nil (rl_drawn hR (w.drawn + 1)))
    have := pends_perm (l := silOf vs 0) (n := lenH s.hp) (Pd := [])
    rw [List.append_nil] at this
    exact pr_perm this h0
  · obtain ⟨k, p⟩ := x
    obtain ⟨i, v, h1, h2, _⟩ := mem_silOf.1 (mem_silP hx).2
    have := (List.getElem?_eq_some_iff.1 h1).1
    simp only; omega
  · have hlt := belowOk_at c3 i
    rw [directs_at ho, Nat.zero_add] at hlt
    have hbit : (maskL .any o.after.toList).testBit e.on = true := maskL_spec.2 ⟨e, by simpa using he, hb, rfl⟩
    rcases Nat.lt_or_ge e.on i with h' | h'
    · exact h'
    · have := Nat.testBit_lt_two_pow (Nat.lt_of_lt_of_le hlt (Nat.pow_le_pow_right (by omega) h'))
      rw [this] at hbit; cases hbit
theorem tab_len {lf : FuncId → Bool} {clo : Nat → Nat → Bool} {vs : List VOp} : ∀ (l : List VOp) (j : Nat), (tabOf lf clo vs l j).length = l.length
  | [], _ => rfl
  | _ :: l, j => by simp only [tabOf, List.length_cons, tab_len l]
theorem op_quiet {lf : FuncId → Bool} {clo : Nat → Nat → Bool} {vs : List VOp} (hGn : ∀ v A s, G v A s → loudV lf v = true) (i : Nat) (v : VOp) (chk : List (Nat × X)) (A : S → Prop) (s : S) (h : (tabOf lf clo vs vs 0)[i]? = some (.op v chk)) : ¬ G v A s := fun hg => by
  rw [tabOf_get] at h
  obtain ⟨u, hu, he⟩ := Option.map_eq_some_iff.1 h
  unfold entryOf at he
  cases hs : silentOf u with
  | some x => rw [hs] at he; cases he
  | none =>
    rw [hs] at he
    simp only at he
    cases hl : loudV lf u with
    | true => rw [hl] at he; cases he
    | false =>
      rw [hl] at he
      cases he
      rw [hGn _ _ _ hg] at hl; cases hl
theorem draw_sound (hE : EnvOk P E) (hm : P.follows .mixedOrders = true) {ops : Array Oper} {al : List (Nat × AL)} {dl : List DOp} (hd : drawOf P ops = some (al, dl)) {A : S → Prop} {κ : Kont} {s : S} {a : Act} {sv : List Act} {w : World} {id : Nat}
    (h : dopsP E G A dl (runAl s al)) {cx : Cx0} {ks : List (Nat × Obj)} {J : Nat → Option IK} {hJ : Ext cx J} (hG : LoudOk P G rd ops κ cx ks sv) (hGn : ∀ v A s, G v A s → loudV (loudF P) v = true) (hR : Rl ⟨cx.wI J hJ, ks⟩ s a sv w) (hK : ∀ s a w J (hJ : Ext cx J), A s → Rl ⟨cx.wI J hJ, ks⟩ s a sv w → κ .normal a w) : (Code.region id ops true).wpIn (Wd rd) 0 P κ a w := by
  unfold drawOf at hd
  obtain ⟨vs, hvs, hd⟩ := Option.bind_eq_some_iff.1 hd
  simp only at hd
  split at hd
  · rename_i hc
    simp only [Option.some.injEq, Prod.mk.injEq] at hd
    obtain ⟨rfl, rfl⟩ := hd
    simp only [Bool.and_eq_true] at hc
    obtain ⟨⟨⟨⟨⟨⟨⟨c0, c1⟩, c2⟩, c3⟩, c4⟩, c5⟩, c6⟩, c7⟩ := hc
    have hlen : vs.length = ops.size := by rw [vopsOf_length hvs]; simp
    refine draw_any hE hm hvs c0 c1 c2 c3 c4 c5 (fun s0 hs0 m1 m2 m3 => ?_) hG hGn hR hK
    subst hs0
    rw [← Nat.eq_of_beq_eq_true c6]
    have := seq_any m1 m2 m3 _ 0 (Array.replicate ops.size false) _ c7 corr_none down_none (seqS_of hG.mono (op_quiet hGn) (fun i hi => by rw [tab_len, hlen]; exact seqB_lt c7 i hi) h)
    rw [Nat.eq_of_beq_eq_true c6] at this ⊢
    exact this
  · cases hd
theorem drawT_sound (hE : EnvOk P E) (hm : P.follows .mixedOrders = true) {ops : Array Oper} {al : List (Nat × AL)} {t : DTr} (hd : drawTOf P ops = some (al, t)) {A : S → Prop} {κ : Kont} {s : S} {a : Act} {sv : List Act} {w : World} {id : Nat}
    (h : dtrP E G A t (runAl s al)) {cx : Cx0} {ks : List (Nat × Obj)} {J : Nat → Option IK} {hJ : Ext cx J} (hG : LoudOk P G rd ops κ cx ks sv) (hGn : ∀ v A s, G v A s → loudV (loudF P) v = true) (hR : Rl ⟨cx.wI J hJ, ks⟩ s a sv w) (hK : ∀ s a w J (hJ : Ext cx J), A s → Rl ⟨cx.wI J hJ, ks⟩ s a sv w → κ .normal a w) : (Code.region id ops true).wpIn (Wd rd) 0 P κ a w := by
  unfold drawTOf at hd
  obtain ⟨vs, hvs, hd⟩ := Option.bind_eq_some_iff.1 hd
  simp only at hd
  split at hd
  · rename_i hc
    simp only [Option.some.injEq, Prod.mk.injEq] at hd
    obtain ⟨rfl, rfl⟩ := hd
    simp only [Bool.and_eq_true] at hc
    obtain ⟨⟨⟨⟨⟨⟨⟨c0, c1⟩, c2⟩, c3⟩, c4⟩, c5⟩, c6⟩, c7⟩ := hc
    have hlen : vs.length = ops.size := by rw [vopsOf_length hvs]; simp
    refine draw_any hE hm hvs c0 c1 c2 c3 c4 c5 (fun s0 hs0 m1 m2 m3 => ?_) hG hGn hR hK
    subst hs0
    have := (tree_any m1 m2 m3 _ 0 false (Array.replicate ops.size false) _ c7 corr_none down_none (treeS_of hG.mono (op_quiet hGn) (fun i hi => by rw [tab_len, hlen]; exact treeB_lt c7 i hi) h)).1 rfl
    rw [Nat.eq_of_beq_eq_true c6] at this
    exact this
  · cases hd
end
end Go.Vx
set_option linter.all false
namespace Go.Vx
open Go.RowKit
section
variable {P : Program} {E : Env} {Q : SV → List HO → Prop} {vr : List VR} {w0 : Cx0} {rd : Option Nat} {ks : List (Nat × Obj)}
def inG (E : Env) (Q : SV → List HO → Prop) (vr : List VR) (N : Nat) (K0 : List It) (v : VOp) (A : S → Prop) (s : S) : Prop :=
  ∃ f d xs ys vf, ∃ B : S → Prop, v = ⟨d, none, .call f, xs⟩ ∧ E.lo f = true ∧ callee E (.call f) (s.args xs) = some (f, ys) ∧ E.ct f = none ∧ E.fn f = some vf ∧
    (∃ m, m ≤ N ∧ run E Q vr m (.code vf.body :: .frame d vf.res :: .inLoop B :: K0) { fr := padL vf.ntmps ys, saved := s.fr :: s.saved, hp := s.hp }) ∧ ∀ s', B s' → A s'
theorem inG_mono {N : Nat} {K0 : List It} (v : VOp) (A B : S → Prop) (s : S) (h : ∀ s, A s → B s) (hg : inG E Q vr N K0 v A s) : inG E Q vr N K0 v B s := by
  obtain ⟨f, d, xs, ys, vf, C, h1, h2, h3, h4, h5, h6, h7⟩ := hg
  exact ⟨f, d, xs, ys, vf, C, h1, h2, h3, h4, h5, h6, fun s' hs => h _ (h7 s' hs)⟩
theorem callee_call {f g : FuncId} {xs ys : List SV} (h : callee E (.call f) xs = some (g, ys)) : g = f := by
  simp only [callee, Option.some.injEq, Prod.mk.injEq] at h
  exact h.1.symm
theorem dop_run {n N : Nat} (hN : n ≤ N) {v : VOp} {K K0 : List It} (hK : stripD K = K0) {s : S} (h : dop E (run E Q vr n) v K s) : dopW E v (fun s' => ∃ m, m ≤ n ∧ run E Q vr m K s') s ∨ inG E Q vr N K0 v (fun s' => ∃ m, m ≤ n ∧ run E Q vr m K s') s := by
  obtain ⟨d, g, op, xs⟩ := v
  cases g with
  | none =>
    simp only [dop] at h
    unfold dopW
    simp only
    cases hq : op.quiet with
    | true =>
      left
      rw [hq] at h
      simp only [dpl, dq] at h
      simp only [fEff]
      cases he : eff s.hp (lenH s.hp) op (s.args xs) with
      | none => rw [he] at h; exact h.elim
      | some e =>
        obtain ⟨p, x, u⟩ := e
        rw [he] at h
        cases u <;> try exact h.elim
        exact ⟨h.1, n, Nat.le_refl _, h.2⟩
    | false =>
      rw [hq] at h
      simp only [dpl, dcl] at h
      simp only [heavyW]
      cases hc : callee E op (s.args xs) with
      | none =>
        left
        rw [hc] at h
        simp only [psdD] at h
        simp only [psdW]
        cases hps : psd op (s.args xs) with
        | some c =>
          rw [hps] at h
          exact (run_res n h).mono fun r hs ⟨m, hm, h2⟩ => ⟨m, by omega, h2⟩
        | none =>
        rw [hps] at h
        simp only at h ⊢
        cases hbad : op.bad with
        | true => rw [hbad] at h; exact h.elim
        | false =>
        rw [hbad] at h
        simp only [effD, effK] at h
        simp only [badW, effW]
        cases he : eff s.hp (lenH s.hp) op (s.args xs) with
        | none => rw [he] at h; exact h.elim
        | some e => rw [he] at h; exact ⟨h.1, n, Nat.le_refl _, h.2⟩
      | some fy =>
        obtain ⟨f, ys⟩ := fy
        rw [hc] at h
        simp only [dct] at h
        simp only [ctW]
        cases hct : E.ct f with
        | none =>
          right
          rw [hct] at h
          simp only [dinl] at h
          split at h
          · rename_i g
            split at h
            · rename_i hlo
              split at h
              · rename_i vf hfn
                obtain ⟨B, h1, h2⟩ := h
                obtain rfl := callee_call hc
                rw [hK] at h1
                exact ⟨_, d, xs, ys, vf, B, rfl, hlo, hc, hct, hfn, ⟨n, hN, h1⟩, fun s' hs => ⟨n, Nat.le_refl _, h2 s' hs⟩⟩
              · exact h.elim
            · exact h.elim
          · exact h.elim
        | some c =>
          left
          rw [hct] at h
          exact ⟨h.1, (run_res n h.2).mono fun r hs ⟨m, hm, h2⟩ => ⟨m, by omega, h2⟩⟩
  | some gp =>
    left
    obtain ⟨g, pol⟩ := gp
    simp only [dop, dgd] at h
    unfold dopW
    simp only
    cases hgd : guardOf (getL s.fr g) pol with
    | none => rw [hgd] at h; exact h.elim
    | some gb =>
      rw [hgd] at h
      simp only [dgq] at h
      cases hq : op.quiet with
      | true =>
        rw [hq] at h
        simp only [effG] at h
        simp only [fEff, hgd]
        cases he : eff s.hp (lenH s.hp) op (unoptsO op gb (s.args xs)).2 with
        | none => rw [he] at h; exact h.elim
        | some e =>
          obtain ⟨p, x, u⟩ := e
          rw [he] at h
          cases u <;> try exact h.elim
          exact ⟨⟨h.1, h.2.1⟩, n, Nat.le_refl _, h.2.2⟩
      | false =>
        rw [hq] at h
        simp only [dctG] at h
        simp only [heavyGW, hgd, ctGW]
        cases hct : ctOf E op (unoptsO op gb (s.args xs)).2 with
        | none => rw [hct] at h; exact h.elim
        | some c =>
          rw [hct] at h
          obtain ⟨c, ys⟩ := c
          obtain ⟨hp, hno, h⟩ := h
          obtain ⟨m, r, hm, h1, h2⟩ := run_resG n h
          exact ⟨hp, hno, r, ⟨m, by omega, h1⟩, h2⟩
theorem dopsP_mono {N : Nat} {K0 : List It} {A B : S → Prop} : ∀ (l : List DOp), (∀ s, A s → B s) → ∀ {s : S}, dopsP E (inG E Q vr N K0) A l s → dopsP E (inG E Q vr N K0) B l s
  | [], h, _, hs => h _ hs
  | ⟨_, _⟩ :: l, h, _, hs => ⟨hs.1, hs.2.imp (dopW_mono (fun _ h' => dopsP_mono l h h')) (inG_mono _ _ _ _ fun _ h' => dopsP_mono l h h')⟩
theorem dops_run {N : Nat} {K0 : List It} : ∀ (l : List DOp) (n : Nat) (hn : n ≤ N) {K : List It} (hK : stripD K = K0) {s : S}, run E Q vr n (.dops l :: K) s → dopsP E (inG E Q vr N K0) (fun s' => ∃ m, m < n ∧ run E Q vr m K s') l s
  | _, 0, _, _, _, _, h => h.elim
  | [], n + 1, _, _, _, _, h => ⟨n, Nat.lt_succ_self _, h⟩
  | ⟨v, chk⟩ :: l, n + 1, hn, K, hK, _, h => by
    refine ⟨h.1, ?_⟩
    have key : ∀ (s : S), (∃ m, m ≤ n ∧ run E Q vr m (.dops l :: K) s) → dopsP E (inG E Q vr N K0) (fun s' => ∃ m, m < n + 1 ∧ run E Q vr m K s') l s := fun s ⟨m, hm, h'⟩ =>
      dopsP_mono l (fun _ ⟨m', hm', h''⟩ => ⟨m', by omega, h''⟩) (dops_run l m (by omega) hK h')
    exact (dop_run (n := n) (N := N) (by omega) (K := .dops l :: K) (K0 := K0) hK h.2).imp (dopW_mono key) (inG_mono _ _ _ _ key)
theorem dtrP_mono {N : Nat} {K0 : List It} {A B : S → Prop} : ∀ (t : DTr), (∀ s, A s → B s) → ∀ {s : S}, dtrP E (inG E Q vr N K0) A t s → dtrP E (inG E Q vr N K0) B t s
  | .leaf, h, _, hs => h _ hs
  | .ops l t, h, _, hs => dopsP_mono l (fun _ h' => dtrP_mono t h h') hs
  | .br a b, h, _, hs => ⟨dtrP_mono a h hs.1, dtrP_mono b h hs.2⟩
theorem dtr_run {N : Nat} {K0 : List It} : ∀ (t : DTr) (n : Nat) (hn : n ≤ N) {K : List It} (hK : stripD K = K0) {s : S}, run E Q vr n (.dtr t :: K) s → dtrP E (inG E Q vr N K0) (fun s' => ∃ m, m < n ∧ run E Q vr m K s') t s
  | _, 0, _, _, _, _, h => h.elim
  | .leaf, n + 1, _, _, _, _, h => ⟨n, Nat.lt_succ_self _, h⟩
  | .ops l t, n + 1, hn, K, hK, _, h => dopsP_mono l (fun _ ⟨m, hm, h'⟩ => dtrP_mono t (fun _ ⟨m', hm', h''⟩ => ⟨m', by omega, h''⟩) (dtr_run t m (by omega) hK h')) (dops_run l n (by omega) (K := .dtr t :: K) hK h)
  | .br a b, n + 1, hn, K, hK, _, h => ⟨dtrP_mono a (fun _ ⟨m', hm', h''⟩ => ⟨m', by omega, h''⟩) (dtr_run a n (by omega) hK h.1), dtrP_mono b (fun _ ⟨m', hm', h''⟩ => ⟨m', by omega, h''⟩) (dtr_run b n (by omega) hK h.2)⟩
theorem in_frame {fn : Func} {c : Code} {b : VC} {f : FuncId} (hf : P.funcs[f]? = some fn) (hbody : fn.body = some c) {R : Ending → World → Prop} {args : Array Value} {w : World}
    (h : (Exit.then (c.wpIn (Wd none) 0 P (bodyPostM (Wd none) 0 P fn R)) (bodyPostM (Wd none) 0 P fn R)) .normal { tmps := args ++ Array.replicate (fn.ntmps - args.size) undef, defers := [] } w) : CallsIn (Wd none) 0 P f args w R :=
  callsIn_of_wp_marks hf hbody trivial h
theorem vfunc_inv {fn : Func} {vf : VF} (h : vfunc P fn = some vf) : ∃ c, fn.body = some c ∧ vcode P c = some vf.body ∧ vress P fn.results.toList = some vf.res ∧ vf.ntmps = fn.ntmps := by
  unfold vfunc at h
  obtain ⟨c, hbody, h⟩ := Option.bind_eq_some_iff.1 h
  obtain ⟨b, hcode, h⟩ := Option.bind_eq_some_iff.1 h
  obtain ⟨res, hres, rfl⟩ := Option.map_eq_some_iff.1 h
  exact ⟨c, hbody, hcode, hres, rfl⟩
theorem putPs_ok {w : World} {bs : List BK} {B : Bd} : ∀ {ps : List Nat} {ys fr : List SV} {vs : List Value} {tmps : Array Value}, RepL w bs B fr tmps.toList → RepL w bs B ys vs → RepL w bs B (putPs fr ps ys) ((ps.zip vs).foldl (fun t (p : Nat × Value) => t.setIfInBounds p.1 p.2) tmps).toList
  | [], ys, fr, vs, tmps, h, _ => by cases ys <;> simpa [putPs] using h
  | p :: ps, _, fr, _, tmps, h, .nil => by simpa [putPs] using h
  | p :: ps, _, fr, _, tmps, h, .cons y v ys vs h1 h2 => by
    simp only [putPs, List.zip_cons_cons, List.foldl_cons]
    refine putPs_ok ?_ h2
    rw [Array.toList_setIfInBounds]
    exact h.set p h1
theorem op_sound (hE : EnvOk P E) {fn0 : Func} {R0 : Ending → World → Prop} {n : Nat} (ih : ∀ m, m ≤ n → ∀ (K : List It) (s : S), run E Q vr m K s → ∀ (sv : List Act) (ks : List (Nat × Obj)) (rd : Option Nat) (κ : Kont) (a : Act) (w : World), KRel P w0 (bodyPostM (Wd none) 0 P fn0 R0) K sv ks rd κ → ∀ {D : Nat → Option IK} {hD : Ext w0 D}, Rl ⟨w0.wI D hD, ks⟩ s a sv w → κ .normal a w)
    {all : Array Oper} {o : Oper} {rest : List Oper} {l : List VOp} {vo : VO} {ops : List Operand} {xs : List SV} {K : List It} {s : S} {sv : List Act} {κ : Kont} {a : Act} {w : World}
    (hv : vop P o = some (vo, ops)) (hcc : vo.isCall = true → opIsCall o.op = true) (hrest : vopsOf P all rest = some l) {D : Nat → Option IK} {hD : Ext w0 D} (hx : ∀ bs, RepL w bs (w0.wI D hD).bd s.fr a.tmps.toList → RepL w bs (w0.wI D hD).bd xs (ops.map a.eval))
    (h : runOp E (run E Q vr n) o.dst vo xs (.ops l :: K) s) (hk : KRel P w0 (bodyPostM (Wd none) 0 P fn0 R0) K sv ks rd κ) (hR : Rl ⟨w0.wI D hD, ks⟩ s a sv w) : o.wpIn (Wd rd) 0 P a w (wpListIn (Wd rd) 0 P all κ rest) κ := by
  have hK : KRel P w0 (bodyPostM (Wd none) 0 P fn0 R0) (.ops l :: K) sv ks rd (Exit.then (wpListIn (Wd rd) 0 P all κ rest) κ) := .ops all rest l K sv ks rd κ hrest hk
  obtain ⟨bs, hf, hsv, hH, hb, hoth⟩ := id hR
  have hxx := hx bs hf
  have hB : w0.heap.size ≤ w.heap.size := hb.size
  have hnd := vop_nodefer hv
  unfold runOp at h
  cases hc : callee E vo xs with
  | none =>
    rw [hc] at h
    simp only [opK] at h
    cases hy : yld vo xs with
    | some ly =>
      obtain ⟨l', ys⟩ := ly
      rw [hy] at h
      simp only [yldK] at h
      have hvo : vo = .callv ∧ xs = .fn (.yield l') [] [] :: ys := by
        unfold yld at hy
        split at hy
        · split at hy
          · cases hy; exact ⟨rfl, rfl⟩
          · cases hy
        · cases hy
      obtain ⟨rfl, rfl⟩ := hvo
      cases hfr : findR (.ops l :: K) with
      | none => rw [hfr] at h; exact h.elim
      | some x =>
        obtain ⟨l2, ps, va, vb⟩ := x
        rw [hfr] at h
        cases hss : s.saved with
        | nil => rw [hss] at h; exact h.elim
        | cons fr svs =>
          rw [hss] at h
          obtain ⟨⟨rfl, hlen⟩, hrun⟩ := h
          obtain ⟨q, sa, sv', ks', rfl, rfl, rfl, rfl, htm, hva, hvb⟩ := findR_ok hfr hK
          obtain ⟨c, hop, hcall⟩ := vop_call hv (hcc rfl) rfl
          rcases hcall with ⟨_, h1, _⟩ | ⟨x, _, hcal, rfl⟩ | ⟨_, _, h1, _⟩
          · cases h1
          · obtain ⟨v, vs, hvs, g1, g2⟩ := hxx.cons_inv
            simp only [List.map_cons, List.cons.injEq] at hvs
            obtain ⟨hv1, rfl⟩ := hvs
            obtain ⟨us, us', rfl, g3, g4⟩ := g1.fn_inv
            cases g3.nil_inv; cases g4.nil_inv
            have hrec := rl_record_at hR
            have hsz : (#[] ++ c.args.map a.eval ++ #[] : Array Value).size = q.ps.length := by
              have := g2.length
              simp only [List.length_map, Array.length_toList] at this
              have e2 : ∀ l : List Nat, lenN l = l.length := fun l => by induction l with | nil => rfl | cons _ l ih => simp [lenN, ih]
              rw [e2] at hlen
              simp; omega
            have hex : (execOp a.eval o).run P w = .ok (.round l' q.fn ((q.ps.toArray.zip (#[] ++ c.args.map a.eval ++ #[])).foldl (fun tmps (t, a) => tmps.setIfInBounds t a) q.tmps) q.ca q.cb) w := by
              obtain ⟨dst, op, type, pos, after, guard⟩ := o
              simp only at hop
              subst hop
              simp only [execOp, resolve, hcal, hv1, Deferred.ofValue, Sem.run_bind, Sem.run_pure, Result.andThen_ok, invoke]
              exact run_yield hrec (by simpa [Rec.at] using hsz)
            unfold Oper.wpIn
            rw [Oper.semAt_eq _ _ _ hnd, hex]
            refine ⟨fun _ _ => trivial, fun h => (by cases h), ?_⟩
            refine roundIn_of_wpIn trivial ?_
            refine ih n (Nat.le_refl _) _ _ hrun (a :: sa :: sv') _ _ _ { tmps := _, defers := [] } _ (.code q.ca va _ _ _ (some l') _ hva (.rbeg l' q _ _ ks' _ (.code q.cb vb _ _ _ (some l') _ hvb (.rend o.dst l' q a _ _ ks' _ _ (fun v w h => h) hK)))) (D := D) (hD := hD) ?_
            rw [hss] at hsv
            cases hsv with
            | cons _ _ _ _ k1 k2 =>
              refine ⟨bs, ?_, .cons _ _ _ _ hf (by rw [hss]; exact .cons _ _ _ _ k1 k2), hH, hb, hoth.push⟩
              have := putPs_ok (ps := q.ps) k1 g2
              rw [htm]
              have e : q.ps.toArray.zip (#[] ++ c.args.map a.eval ++ #[]) = (q.ps.zip (c.args.toList.map a.eval)).toArray := by apply Array.ext'; simp
              rw [e]
              simpa using this
          · cases h1
    | none =>
    rw [hy] at h
    simp only [yldK, psdK] at h
    cases hps : psd vo xs with
    | some c =>
      rw [hps] at h
      obtain ⟨r, val, w', x, D2, hD2, hrn, hr, ⟨m, hm, hrun⟩, k1, k2, k3, k4⟩ := psd_ok (ρ := a.eval) hv hps (run_res n h) hxx hH
      refine wp_of_run hnd (hrn o.dst o.type o.pos o.after o.guard) hr ?_
      obtain ⟨hD3, hcr⟩ := call_rel (al := false) (z := Bd.cx (w0.wI D hD).bd w) (w0 := w0) (J1 := D) (hJ1 := hD) (hJ := hD2) rfl hf hsv hH hb hoth o.dst k1 k2 k3 (fun _ => ⟨k4, trivial⟩) (fun h => by cases h)
      exact ih m (by omega) _ _ hrun sv _ _ _ _ _ hK (hcr _ fun _ h => h)
    | none =>
    rw [hps] at h
    simp only [effK] at h
    cases he : eff s.hp (lenH s.hp) vo xs with
    | none => rw [he] at h; exact h.elim
    | some e =>
      rw [he] at h
      obtain ⟨r, v, w', bs', hrun, hr, h1, h2, h3, h4, h5⟩ := vop_ok (ρ := a.eval) hv he h.1 hxx (fun _ => rfl) (fun _ => rfl) hH hB
      refine wp_of_run hnd (hrun o.dst o.type o.pos o.after o.guard) hr ?_
      exact ih n (Nat.le_refl _) _ _ h.2 sv _ _ _ _ _ hK (upd_rel (op := o.op) hf hsv hb hoth h1 h2 h3 h4 h5 o.dst)
  | some fy =>
    obtain ⟨f, ys⟩ := fy
    rw [hc] at h
    have hcall : vo.isCall = true := by
      unfold callee at hc
      split at hc <;> first | rfl | cases hc
    simp only [opK, callK] at h
    cases hct : E.ct f with
    | some c =>
      rw [hct] at h
      obtain ⟨hok, hen⟩ := hE.ct f c hct
      obtain ⟨vs, hys, hrun⟩ := call_ok hE.meth hv (hcc hcall) hc hxx (fun _ => rfl) hen
      refine wp_of_enter hnd hrun ?_
      obtain ⟨z, hzw, hzI, hargs2, hal⟩ := callee_args c.alias hH.v hB 3 hys h.1
      subst hzw
      refine (hok _ vs z _ (fun b K hb => (hH.reg b K (by rw [hzI] at hb; exact hb)).2) hargs2 (run_res n h.2)).mono ?_
      rintro e w' ⟨r, hs, v, bs2, D2, hD2, ⟨m, hm, hrun'⟩, rfl, h1, h2, h3, h4⟩
      obtain ⟨hD3, hcr⟩ := call_rel (w0 := w0) (J1 := D) (hJ1 := hD) (hJ := hD2) hzI hf hsv hH hb hoth o.dst h1 h2 h3 h4 hal
      exact ih m (by omega) _ _ hrun' sv _ _ _ _ _ hK (hcr _ fun _ h => h)
    | none =>
      rw [hct] at h
      simp only [inlK] at h
      cases hfn : E.fn f with
      | none => rw [hfn] at h; exact h.elim
      | some vf =>
        rw [hfn] at h
        obtain ⟨fn, hfs, hvf, hen⟩ := hE.fn f vf hfn
        obtain ⟨vs, hys, hrun⟩ := call_ok hE.meth hv (hcc hcall) hc hxx (fun _ => rfl) hen
        refine wp_of_enter hnd hrun ?_
        obtain ⟨c, hbody, hcode, hres, hnt⟩ := vfunc_inv hvf
        refine calls_of_wd (n := 0) (in_frame (b := vf.body) hfs hbody ?_)
        refine ih n (Nat.le_refl _) _ _ h (a :: sv) _ _ _ _ _ (.code c vf.body _ _ _ _ _ hcode (.frame o.dst vf.res fn a _ _ _ _ _ _ hres (fun v w h => h) hK)) (D := D) (hD := hD) ?_
        refine ⟨bs, ?_, .cons _ _ _ _ hf hsv, hH, hb, hoth.push⟩
        have := padL_ok (n := fn.ntmps) hys
        rw [hnt]
        simpa using this
theorem vopsOf_cons {all : Array Oper} {rest : List Oper} {v : VOp} {l : List VOp} (h : vopsOf P all rest = some (v :: l)) : ∃ o r, rest = o :: r ∧ vopOf P all o = some v ∧ vopsOf P all r = some l := by
  cases rest with
  | nil => cases h
  | cons o r =>
    simp only [vopsOf] at h
    obtain ⟨x, hx, h⟩ := Option.bind_eq_some_iff.1 h
    obtain ⟨y, hy, h⟩ := Option.map_eq_some_iff.1 h
    cases h
    exact ⟨o, r, rfl, hx, hy⟩
theorem vopsOf_nil {all : Array Oper} {rest : List Oper} (h : vopsOf P all rest = some []) : rest = [] := by
  cases rest with
  | nil => rfl
  | cons o r =>
    simp only [vopsOf] at h
    obtain ⟨x, hx, h⟩ := Option.bind_eq_some_iff.1 h
    obtain ⟨y, hy, h⟩ := Option.map_eq_some_iff.1 h
    cases h
theorem vopOf_inv {all : Array Oper} {o : Oper} {v : VOp} (h : vopOf P all o = some v) : ∃ ops, vop P o = some (v.op, ops) ∧ X.ofs ops = some v.xs ∧ (v.op.isCall = true → opIsCall o.op = true) ∧ v.dst = o.dst ∧
    ((o.guard = none ∧ v.g = none) ∨ ∃ j b g, o.guard = some (j, b) ∧ slotOf all j = some g ∧ v.g = some (g, b)) := by
  unfold vopOf at h
  obtain ⟨⟨vo, ops⟩, h1, h⟩ := Option.bind_eq_some_iff.1 h
  obtain ⟨xs, h2, h⟩ := Option.bind_eq_some_iff.1 h
  split at h
  · cases h
  · rename_i hne
    have hne : vo.isCall = true → opIsCall o.op = true := by simpa using hne
    split at h
    · cases h; exact ⟨ops, h1, h2, hne, rfl, .inl ⟨‹_›, rfl⟩⟩
    · obtain ⟨g, hg, rfl⟩ := Option.map_eq_some_iff.1 h
      exact ⟨ops, h1, h2, hne, rfl, .inr ⟨_, _, g, ‹_›, hg, rfl⟩⟩
theorem krel_strip {κ0 : Kont} {K : List It} {sv : List Act} {ks : List (Nat × Obj)} {r : Option Nat} {κ : Kont} (h : KRel P w0 κ0 K sv ks r κ) : stripD K = K := by
  cases h <;> rfl
theorem loud_is (hE : EnvOk P E) {n : Nat} {K : List It} {v : VOp} {A : S → Prop} {s : S} (h : inG E Q vr n K v A s) : loudV (loudF P) v = true := by
  obtain ⟨f, d, xs, ys, vf, B, rfl, hlo, _⟩ := h
  exact hE.lo f hlo
theorem loud_ok (hE : EnvOk P E) {fn0 : Func} {R0 : Ending → World → Prop} {n : Nat} (ih : ∀ m, m ≤ n → ∀ (K : List It) (s : S), run E Q vr m K s → ∀ (sv : List Act) (ks : List (Nat × Obj)) (rd : Option Nat) (κ : Kont) (a : Act) (w : World), KRel P w0 (bodyPostM (Wd none) 0 P fn0 R0) K sv ks rd κ → ∀ {D : Nat → Option IK} {hD : Ext w0 D}, Rl ⟨w0.wI D hD, ks⟩ s a sv w → κ .normal a w)
    {all : Array Oper} {K : List It} {sv : List Act} {ks : List (Nat × Obj)} {rd : Option Nat} {κ : Kont} (hk : KRel P w0 (bodyPostM (Wd none) 0 P fn0 R0) K sv ks rd κ) : LoudOk P (inG E Q vr n K) rd all κ w0 ks sv := by
  refine ⟨inG_mono, ?_⟩
  intro i o v A s hi hv hg J hJ a w hR
  obtain ⟨f, d, xs, ys, vf, B, rfl, hlo, hc, hct, hfn, ⟨m, hm, hrun'⟩, hB⟩ := hg
  obtain ⟨ops, h1, h2, h3, h4, h5⟩ := vopOf_inv' hv
  obtain ⟨bs, hf, hsv, hH, hb, hoth⟩ := id hR
  have hx : RepL w bs (w0.wI J hJ).bd (s.args xs) (ops.map a.eval) := X_ofs hf h2
  obtain ⟨fn, hfs, hvf, hen⟩ := hE.fn f vf hfn
  obtain ⟨vs, hys, hrun⟩ := call_ok hE.meth h1 (h3 rfl) hc hx (fun _ => rfl) hen
  rcases h5 with ⟨hg0, _⟩ | ⟨_, _, _, _, _, hvg⟩
  · refine wpOp_yes hi (by simp [Region.wanted, hg0]) (wp_of_enter (vop_nodefer h1) hrun ?_)
    obtain ⟨c, hbody, hcode, hres, hnt⟩ := vfunc_inv hvf
    refine calls_of_wd (n := 0) (in_frame (b := vf.body) hfs hbody ?_)
    have h4 : d = o.dst := h4
    subst h4
    refine ih m hm _ _ hrun' (a :: sv) _ _ _ _ _ (.code c vf.body _ _ _ _ _ hcode (.frame o.dst vf.res fn a _ _ _ _ _ _ hres (fun v w h => h) (.inLoop B (fun a' w' => ∃ s', A s' ∧ ∃ J', ∃ hJ' : Ext w0 J', Rl ⟨w0.wI J' hJ', ks⟩ s' a' sv w') K sv ks rd κ (fun s' a' w' D hD hBs hR' => ⟨s', hB s' hBs, D, hD, hR'⟩) hk))) (D := J) (hD := hJ) ?_
    refine ⟨bs, ?_, .cons _ _ _ _ hf hsv, hH, hb, hoth.push⟩
    have := padL_ok (n := fn.ntmps) hys
    rw [hnt]
    simpa using this
  · cases hvg
theorem run_sound (hE : EnvOk P E) {fn0 : Func} {R0 : Ending → World → Prop} (hres : vress P fn0.results.toList = some vr)
    (hR0 : ∀ r hp v w' bs D (hD : Ext w0 D), Q r hp → Rep w' bs (w0.wI D hD).bd r v → Hp w' bs (w0.wI D hD).bd hp → BelowI w0.bd w0.toWorld w' → R0 (.returned v) w') :
    ∀ (n : Nat) (K : List It) (s : S), run E Q vr n K s → ∀ (sv : List Act) (ks : List (Nat × Obj)) (rd : Option Nat) (κ : Kont) (a : Act) (w : World), KRel P w0 (bodyPostM (Wd none) 0 P fn0 R0) K sv ks rd κ → ∀ {D : Nat → Option IK} {hD : Ext w0 D}, Rl ⟨w0.wI D hD, ks⟩ s a sv w → κ .normal a w := by
  have main : ∀ (N n : Nat), n ≤ N → ∀ (K : List It) (s : S), run E Q vr n K s → ∀ (sv : List Act) (ks : List (Nat × Obj)) (rd : Option Nat) (κ : Kont) (a : Act) (w : World), KRel P w0 (bodyPostM (Wd none) 0 P fn0 R0) K sv ks rd κ → ∀ {D : Nat → Option IK} {hD : Ext w0 D}, Rl ⟨w0.wI D hD, ks⟩ s a sv w → κ .normal a w := by
    intro N
    induction N with
    | zero => intro n hn K s h; have : n = 0 := by omega
              subst this; exact h.elim
    | succ N ihN =>
      intro n hn K s h sv ks rd κ a w hk D hD hR
      cases n with
      | zero => exact h.elim
      | succ n =>
      have ih : ∀ m, m ≤ n → ∀ (K : List It) (s : S), run E Q vr m K s → ∀ (sv : List Act) (ks : List (Nat × Obj)) (rd : Option Nat) (κ : Kont) (a : Act) (w : World), KRel P w0 (bodyPostM (Wd none) 0 P fn0 R0) K sv ks rd κ → ∀ {D : Nat → Option IK} {hD : Ext w0 D}, Rl ⟨w0.wI D hD, ks⟩ s a sv w → κ .normal a w := fun m hm => ihN m (by omega)
      have ihn := ih n (Nat.le_refl _)
      have hjump : ∀ {K' : List It} {d : Option Nat} {f : Act → World → Prop}, rendK (run E Q vr n) d false K' s.hp s.saved → Jumps P w0 (bodyPostM (Wd none) 0 P fn0 R0) K' d sv ks rd f → f a w := by
        rintro K' d f hr ⟨c, q, l, ita, sv', ks', κ', rfl, rfl, rfl, hk', hf⟩
        cases hs : s.saved with
        | nil => rw [hs] at hr; exact hr.elim
        | cons fr svs =>
          rw [hs] at hr
          have hat := rl_record_at hR
          have hend := run_endRound (P := P) (some c) hat
          have h2 := rl_pop hs (rl_record (lp' := q.at .done (some c)) hR)
          exact hf a w _ _ hend (ihn _ _ hr sv' _ _ _ _ _ hk' (put_rel h2 d fun _ _ _ => .x _ _ (.bool _)))
      cases K with
      | nil =>
        cases hk
        rw [r_end] at h
        cases hv : resVals s vr with
        | none => rw [hv] at h; exact h.elim
        | some x =>
          obtain ⟨p, vs⟩ := x
          rw [hv] at h
          obtain ⟨ms, hms⟩ := rl_marks hR
          refine leaves_ok ms hms hR fun w' hR' => ?_
          obtain ⟨bs, hf, hsv, hH, hb, hoth⟩ := hR'
          obtain ⟨v, h1, h2⟩ := results_ok (P := P) hf hH hres hv h.1
          exact ⟨v, h1, hR0 _ _ _ _ _ D hD h.2 h2 hH ⟨hb.os, hb.tape, hb.output, hb.size, fun k hk hI => hb.block k hk ((hD.old k hk).trans hI)⟩⟩
      | cons x K =>
      cases x with
      | inBlock i =>
        cases hk with | inBlock _ _ _ _ _ κ hk => exact ihn _ _ h sv _ _ κ a w hk hR
      | inScope =>
        cases hk with | inScope _ _ _ _ κ hk => exact ihn _ _ h sv _ _ κ a w hk hR
      | inLoop I =>
        cases hk with | inLoop _ J _ _ _ _ κ hJ hk => exact hJ s a w D hD h hR
      | frame d res =>
        cases hk with
        | frame _ _ fn sa _ sv _ rd κ R hr hRR hk =>
          rw [r_frame] at h
          cases hv : resVals s res with
          | none => rw [hv] at h; exact h.elim
          | some x =>
            obtain ⟨p, vs⟩ := x
            rw [hv] at h
            cases hs : s.saved with
            | nil => rw [hs] at h; exact h.elim
            | cons fr sv' =>
              rw [hs] at h
              obtain ⟨ms, hms⟩ := rl_marks hR
              refine leaves_ok ms hms hR fun w' hR' => ?_
              obtain ⟨bs, hf, hsv, hH, hb, hoth⟩ := id hR'
              obtain ⟨v, h1, h2⟩ := results_ok (P := P) hf hH hr hv h.1
              refine ⟨v, h1, hRR v w' (ihn _ _ h.2 sv _ _ κ _ w' hk (D := D) (hD := hD) ?_)⟩
              obtain ⟨bs2, k1, k2, k3, k4, k5⟩ := rl_pop hs hR'
              rw [hs] at hsv
              cases hsv with
              | cons _ _ _ _ g1 g2 =>
                have hp := rl_pop hs hR'
                refine ⟨bs, put_rep (s := { fr := fr, saved := sv', hp := s.hp }) (a := sa) g1 h2, ?_, ?_, hb, ?_⟩
                · rw [put_saved]; exact g2
                · rw [put_hp]; exact hH
                · rw [List.map_cons, put_defers']
                  exact hoth.pop
      | rfrm res l ps va vb j =>
        cases hk with
        | rfrm _ _ q lp _ _ _ fn sa _ sv ks rd κ hr _ hps htm hva hvb hj hk =>
          rw [r_rfrm] at h
          cases hv : resVals s res with
          | none => rw [hv] at h; exact h.elim
          | some x =>
            obtain ⟨p, vs⟩ := x
            rw [hv] at h
            cases hs : s.saved with
            | nil => rw [hs] at h; exact h.elim
            | cons fr sv' =>
              rw [hs] at h
              obtain ⟨hp, h⟩ := h
              obtain ⟨ms, hms⟩ := rl_marks hR
              refine leaves_ok ms hms hR fun w' hR' => ?_
              obtain ⟨bs, hf, hsv, hH, hb, hoth⟩ := id hR'
              obtain ⟨v, h1, h2⟩ := results_ok (P := P) hf hH hr hv hp
              have hat := rl_record_at hR'
              cases hj with
              | none =>
                refine ⟨v, h1, none, _, run_endLoop hat (by simp [Rec.at]), ?_⟩
                exact ihn _ _ h sv _ _ κ sa _ hk (rl_forget (rl_record (rl_pop hs hR')))
              | some c vc hc =>
                refine ⟨v, h1, some c, _, run_endLoop hat (by simp [Rec.at]), ?_⟩
                exact ihn _ _ h sv _ _ _ sa _ (.code c vc K sv ks rd κ hc hk) (rl_forget (rl_record (rl_pop hs hR')))
      | rbeg =>
        cases hk with
        | rbeg l q _ _ ks κ hk =>
          exact ⟨_, run_beginRound (rl_record_at hR) rfl, ihn _ _ h sv _ _ κ a _ hk (rl_record hR)⟩
      | rend d =>
        cases hk with
        | rend _ l q ita _ sv ks κ R hRR hk =>
          rw [r_rend] at h
          cases hs : s.saved with
          | nil => rw [hs] at h; exact h.elim
          | cons fr sv' =>
            rw [hs] at h
            refine ⟨_, _, run_endRound none (rl_record_at hR), hRR _ _ (ihn _ _ h sv _ _ κ _ _ hk (D := D) (hD := hD) ?_)⟩
            exact put_rel (rl_pop hs (rl_record (lp' := q.at .ready none) hR)) d fun _ _ _ => .x _ _ (.bool _)
      | dops l => cases hk
      | dtr t => cases hk
      | res g al d c => cases hk
      | ops l =>
        cases hk with
        | ops all rest _ _ _ _ _ κ hl hk =>
        show wpListIn (Wd rd) 0 P all κ rest a w
        cases l with
        | nil => rw [vopsOf_nil hl]; exact ihn _ _ h sv _ _ κ a w hk hR
        | cons v l =>
          obtain ⟨o, r, rfl, hvo, hlr⟩ := vopsOf_cons hl
          obtain ⟨ops, h1, h2, h3, h4, h5⟩ := vopOf_inv hvo
          obtain ⟨dst, g, op, xs⟩ := v
          simp only at h1 h2 h3 h4 h5
          subst h4
          have hnd := vop_nodefer h1
          have hx : ∀ bs, RepL w bs (w0.wI D hD).bd s.fr a.tmps.toList → RepL w bs (w0.wI D hD).bd (s.args xs) (ops.map a.eval) := fun bs hf => X_ofs hf h2
          rcases h5 with ⟨hg, rfl⟩ | ⟨j, pol, gs, hg, hsl, rfl⟩
          · rw [r_op] at h
            exact wpList_op (by simp [Region.wanted, hg]) (op_sound hE ih h1 h3 hlr hx h hk hR)
          · rw [r_opg] at h
            have hKr : KRel P w0 (bodyPostM (Wd none) 0 P fn0 R0) (.ops l :: K) sv ks rd (Exit.then (wpListIn (Wd rd) 0 P all κ r) κ) := .ops all r l K sv ks rd κ hlr hk
            cases hgd : guardOf (getL s.fr gs) pol with
            | none => rw [hgd] at h; exact h.elim
            | some gb =>
              rw [hgd, r_g] at h
              obtain ⟨bs, hf, hsv, hH, hb, hoth⟩ := id hR
              have hw := guard_ok (w := w) hf hg hsl hgd
              have hB : w0.heap.size ≤ w.heap.size := hb.size
              cases hq : op.quiet with
              | true =>
                rw [hq] at h
                simp only [gK] at h
                cases he : eff s.hp (lenH s.hp) op (unoptsO op gb (s.args xs)).2 with
                | none =>
                  rw [he] at h
                  obtain ⟨rfl, v, hrun⟩ := h
                  exact wpList_not hw (ihn _ _ hrun sv _ _ _ _ _ hKr (put_rel hR o.dst fun _ _ _ => .optF _))
                | some e =>
                  rw [he] at h
                  obtain ⟨q, val, u⟩ := e
                  cases u <;> try exact h.elim
                  obtain ⟨hp1, hp2, hrun⟩ := h
                  cases gb with
                  | true =>
                    obtain ⟨r', v, w', bs', hrn, hr, k1, k2, k3, k4, k5⟩ := vop_ok (ρ := a.eval) h1 he (hp2 rfl) (unoptsO_ok rfl (hx bs hf) hp1) (fun _ => rfl) (fun _ => rfl) hH hB
                    refine wpList_op hw (wp_of_run hnd (hrn o.dst o.type o.pos o.after o.guard) hr ?_)
                    refine ihn _ _ hrun sv _ _ _ _ _ hKr (D := D) (hD := hD) ?_
                    exact upd_rel (e := ⟨q, .opt true val, .no⟩) (op := o.op) hf hsv hb hoth (.optT _ _ k1) k2 k3 k4 k5 o.dst
                  | false =>
                    exact wpList_not hw (ihn _ _ hrun sv _ _ _ _ _ hKr (put_rel hR o.dst fun _ _ _ => .optF _))
              | false =>
                rw [hq] at h
                simp only [gK, callG] at h
                cases hct : ctOf E op (unoptsO op gb (s.args xs)).2 with
                | none =>
                  rw [hct] at h
                  obtain ⟨hp1, ht, hfl⟩ := h
                  cases gb with
                  | true => exact wpList_op hw (op_sound hE ih h1 h3 hlr (fun bs hf => unoptsO_ok rfl (hx bs hf) hp1) (ht rfl) hk hR)
                  | false => exact wpList_not hw (ihn _ _ (hfl rfl) sv _ _ _ _ _ hKr (put_rel hR o.dst fun _ _ _ => .x _ _ (.junk _)))
                | some c =>
                  rw [hct] at h
                  obtain ⟨c, ys⟩ := c
                  obtain ⟨hp1, hno, hrun⟩ := h
                  obtain ⟨m, rr, hm, hrun', hcs⟩ := run_resG n hrun
                  cases gb with
                  | false => exact wpList_not hw (ih m (by omega) _ _ hrun' sv _ _ _ _ _ hKr (put_rel hR o.dst fun _ _ _ => .optF _))
                  | true =>
                    obtain ⟨f, hcl, hct', hic⟩ := ctOf_inv hct
                    obtain ⟨hok, hen⟩ := hE.ct f c hct'
                    obtain ⟨vs, hys, hrn⟩ := call_ok hE.meth h1 (h3 hic) hcl (unoptsO_ok rfl (hx bs hf) hp1) (fun _ => rfl) hen
                    refine wpList_op hw (wp_of_enter hnd hrn ?_)
                    obtain ⟨z, hzw, hzI, hargs2, hal⟩ := callee_args c.alias hH.v hB 3 hys hno
                    subst hzw
                    refine (hok _ vs z _ (fun b K hb => (hH.reg b K (by rw [hzI] at hb; exact hb)).2) hargs2 (hcs rfl)).mono ?_
                    rintro e w' ⟨r', hs, v, bs2, D2, hD2, ⟨rfl, rfl⟩, rfl, k1, k2, k3, k4⟩
                    obtain ⟨hD3, hcr⟩ := call_rel (w0 := w0) (J1 := D) (hJ1 := hD) (hJ := hD2) (d := o.dst) hzI hf hsv hH hb hoth k1 k2 k3 k4 hal
                    have hcr := hcr (.opt true (shift (lenH s.hp) r')) fun _ h => .optT _ _ h
                    refine ih m (by omega) _ _ hrun' sv _ _ _ _ _ hKr (D := D2) (hD := hD3) ?_
                    have e0 : ({ fr := s.fr, saved := s.saved, hp := s.hp ++ shiftH (lenH s.hp) [] } : S) = s := by simp [shiftH]
                    rw [e0] at hcr
                    exact hcr
      | code c =>
        cases hk with
        | code cc _ _ _ _ _ κ hcode hk =>
        show cc.wpIn (Wd rd) 0 P κ a w
        cases cc <;> simp only [vcode, reduceCtorEq] at hcode <;> try (cases hcode; exact h.elim)
        case skip => cases hcode; exact wpIn_skip (ihn _ _ h sv _ _ κ a w hk hR)
        case region id ops draw =>
          cases draw with
          | true =>
            simp only [if_true] at hcode
            unfold drawC at hcode
            cases hd : drawOf P ops with
            | none =>
              rw [hd] at hcode
              simp only at hcode
              cases hdt : drawTOf P ops with
              | none => rw [hdt] at hcode; cases hcode; exact h.elim
              | some r =>
                obtain ⟨al, t⟩ := r
                rw [hdt] at hcode
                cases hcode
                exact drawT_sound hE hE.mix hdt (dtr_run (N := n) (K0 := K) t n (Nat.le_refl _) (krel_strip hk) h) (loud_ok hE ih hk) (fun v A s hg => loud_is hE hg) hR fun s' a' w' D' hD' ⟨m, hm, hrun⟩ hR' => ih m (by omega) _ _ hrun sv _ _ κ a' w' hk hR'
            | some r =>
            obtain ⟨al, dl⟩ := r
            rw [hd] at hcode
            cases hcode
            exact draw_sound hE hE.mix hd (dops_run (N := n) (K0 := K) dl n (Nat.le_refl _) (krel_strip hk) h) (loud_ok hE ih hk) (fun v A s hg => loud_is hE hg) hR fun s' a' w' D' hD' ⟨m, hm, hrun⟩ hR' => ih m (by omega) _ _ hrun sv _ _ κ a' w' hk hR'
          | false =>
            simp only [Bool.false_eq_true, if_false] at hcode
            cases hl : vopsOf P ops ops.toList with
            | none => rw [hl] at hcode; cases hcode; exact h.elim
            | some l =>
            rw [hl] at hcode
            cases hcode
            exact wpIn_region_list (ihn _ _ h sv _ _ _ a w (.ops ops ops.toList l K sv ks rd κ hl hk) hR)
        case seq x y =>
          obtain ⟨vx, hx, hcode⟩ := Option.bind_eq_some_iff.1 hcode
          obtain ⟨vy, hy, rfl⟩ := Option.map_eq_some_iff.1 hcode
          exact wpIn_seq (ihn _ _ h sv _ _ _ a w (.code x vx _ sv ks rd _ hx (.code y vy K sv ks rd κ hy hk)) hR)
        case cond cnd x y =>
          obtain ⟨z, hz, hcode⟩ := Option.bind_eq_some_iff.1 hcode
          obtain ⟨vx, hx, hcode⟩ := Option.bind_eq_some_iff.1 hcode
          obtain ⟨vy, hy, rfl⟩ := Option.map_eq_some_iff.1 hcode
          rw [r_cond] at h
          obtain ⟨bs, hf, hsv, hH, hb, hoth⟩ := id hR
          have hrep := X_of (w := w) hf hz
          generalize s.x z = v at h hrep
          cases v <;> try exact h.elim
          rename_i b
          have hb1 := hrep.bool_inv
          obtain ⟨ht, hfl⟩ := h
          refine wpIn_cond_split hb1 (fun hb => ihn _ _ (ht hb) sv _ _ _ a w (.code x vx K sv ks rd κ hx hk) hR) (fun hb => ihn _ _ (hfl hb) sv _ _ _ a w (.code y vy K sv ks rd κ hy hk) hR)
        case block id c =>
          obtain ⟨vc, hc, rfl⟩ := Option.map_eq_some_iff.1 hcode
          exact wpIn_block (ihn _ _ h sv _ _ _ a w (.code c vc _ sv ks rd _ hc (.inBlock id K sv ks rd κ hk)) hR)
        case scope c =>
          obtain ⟨vc, hc, rfl⟩ := Option.map_eq_some_iff.1 hcode
          exact wpIn_scope (ihn _ _ h sv _ _ _ a w (.code c vc _ sv ks rd _ hc (.inScope K sv ks rd κ hk)) hR)
        case label l => cases hcode; exact wpIn_label (ihn _ _ h sv _ _ κ a w hk hR)
        case loop c =>
          obtain ⟨vc, hc, rfl⟩ := Option.map_eq_some_iff.1 hcode
          obtain ⟨σ, head, inv, μ, lf, hlf, ⟨x0, hx0, hle0⟩, hround⟩ := h
          obtain ⟨D0, hD0, hR0'⟩ := leP_ok (hlf _ _ hle0) hR
          refine wpIn_loop_ghost (fun k a w => ∃ x D, ∃ hD : Ext w0 D, μ x = k ∧ inv x ∧ Rl ⟨w0.wI D hD, ks⟩ (head x) a sv w) (μ x0) ⟨x0, D0, hD0, rfl, hx0, hR0'⟩ ?_
          rintro k a w ⟨x, D, hD, rfl, hx, hRx⟩
          exact ihn _ _ (hround x hx) sv _ _ _ a w (.code c vc _ sv ks rd _ hc (.inLoop _ _ K sv ks rd κ (by
            rintro s' a' w' D' hD' ⟨y, hy, hlt, hle⟩ hR'
            obtain ⟨D1, hD1, hR1⟩ := leP_ok (hlf _ _ hle) hR'
            exact ⟨μ y, hlt, y, D1, hD1, rfl, hy, hR1⟩) hk)) hRx
        case exit id =>
          cases hcode
          rw [r_exit] at h
          cases hp : popTo id K with
          | no => rw [hp] at h; exact h.elim
          | go K' =>
            rw [hp] at h
            obtain ⟨κ', h1, h2⟩ := popTo_ok hp hk
            exact wpIn_exit (h2 _ _ (ihn _ _ h sv _ _ κ' a w h1 hR))
          | jump d K' =>
            rw [hp] at h
            exact wpIn_exit (hjump h (popTo_jump hp hk))
        case ret =>
          cases hcode
          rw [r_ret] at h
          cases hp : popRet K with
          | no => rw [hp] at h; exact h.elim
          | go K' =>
            rw [hp] at h
            obtain ⟨κ', h1, h2⟩ := popRet_ok hp hk
            exact wpIn_ret (h2 _ _ (ihn _ _ h sv _ _ κ' a w h1 hR))
          | jump d K' =>
            rw [hp] at h
            exact wpIn_ret (hjump h (popRet_jump hp hk))
        case rangeFunc g ps ca cb =>
          obtain ⟨z, hz, hcode⟩ := Option.bind_eq_some_iff.1 hcode
          obtain ⟨va, hva, hcode⟩ := Option.bind_eq_some_iff.1 hcode
          obtain ⟨vb, hvb, rfl⟩ := Option.map_eq_some_iff.1 hcode
          rw [r_range] at h
          obtain ⟨bs, hf, hsv, hH, hb, hoth⟩ := id hR
          have hrep := X_of (w := w) hf hz
          generalize s.x z = v at h hrep
          unfold rangeK at h
          split at h
          · rename_i gf us cs
            unfold rangeE at h
            cases hfn : E.fn gf with
            | none => rw [hfn] at h; exact h.elim
            | some vf =>
              rw [hfn] at h
              obtain ⟨hnr, h⟩ := h
              have hrd := notRound_ok hnr hk
              subst hrd
              obtain ⟨fn, hfs, hvf, hen⟩ := hE.fn gf vf hfn
              obtain ⟨c, hbody, hcode, hres', hnt⟩ := vfunc_inv hvf
              obtain ⟨uv, cv, hgv, g1, g2⟩ := hrep.fn_inv
              refine wpIn_rangeFunc fun fr _ => ?_
              have hB : w0.heap.size ≤ w.heap.size := hb.size
              obtain ⟨q, hq⟩ : ∃ q : Rec, q = { fn := fr, ps := ps.toList, ca := ca, cb := cb, D := w.heap.size, tmps := a.tmps } := ⟨_, rfl⟩
              obtain ⟨W1, hW1⟩ : ∃ W1, W1 = (w.alloc (.deferred (some []))).alloc (.loop (q.at .ready none)) := ⟨_, rfl⟩
              have hent : (Instr.enterLoop fr a.tmps ps ca cb (Wd none).round).run P w = .ok (w.heap.size + 1, [mark w.heap.size]) W1 := by
                rw [hW1, hq]
                exact run_enterLoop_outer _ _ _ _ _
              refine ⟨w.heap.size + 1, [mark w.heap.size], W1, { target := .fn (.func gf) cv.toArray, args := uv.toArray ++ #[.func (.yield (w.heap.size + 1)) #[] #[]] }, W1, gf, (uv ++ (.func (.yield (w.heap.size + 1)) #[] #[] :: cv)).toArray, W1,
                hent, ?_, fun _ _ => trivial, ?_, fun h => (by cases h), ?_⟩
              · simp only [resolve, hgv, Deferred.ofValue, Sem.run_bind, Sem.run_pure, Result.andThen_ok]
                simp [Act.eval]
              · simp only [invoke, run_callFunc hen]
                simp
              · refine in_frame (b := vf.body) hfs hbody ?_
                refine ihn _ _ (h (w.heap.size + 1)) ({ a with defers := [mark w.heap.size] ++ a.defers } :: sv) _ _ _ { tmps := _, defers := [] } _ (.code c vf.body _ _ _ _ _ hcode (.rfrm vf.res _ q (q.at .ready none) va vb none fn _ _ _ _ _ _ hres' ps.toList (by rw [hq]) (by rw [hq]) (by rw [hq]; exact hva) (by rw [hq]; exact hvb) .none hk)) (D := D) (hD := hD) ?_
                rw [hW1]
                refine rl_enter hf hsv hH hb hoth ?_
                have hy : Rep w bs (w0.wI D hD).bd (.fn (.yield (w.heap.size + 1)) [] []) (.func (.yield (w.heap.size + 1)) #[] #[]) := .x _ _ (.fn _ [] [] [] [] .nil .nil)
                have := padL_ok (n := fn.ntmps) (g1.append (.cons _ _ _ _ hy g2))
                rw [hnt]
                simpa using this
          · exact h.elim
  exact fun n => main n n (Nat.le_refl _)
end
end Go.Vx
set_option linter.all false
namespace Go.Vx
open Go.RowKit
section
variable {P : Program} {E : Env}
def answers (al : Bool) (k : SV → List HO → Prop) (r : SV) (hp : List HO) : Prop :=
  ∃ r', k r' [] ∧ le 0 0 (expo hp r) r' ∧ (al = false → freshS r')
theorem cut_nil : Cut [] [] 0 0 := ⟨rfl, rfl, fun _ _ h => absurd h (Nat.not_lt_zero _), fun _ _ h => absurd h (Nat.not_lt_zero _)⟩
theorem XRepL.up {w : World} {bs : List BK} {B : Bd} {l : List SV} {vs : List Value} (h : XRepL w bs B l vs) : RepL w bs B l vs := h.rep
theorem contract {f : FuncId} {fn : Func} {vf : VF} (hf : P.funcs[f]? = some fn) (hvf : vfunc P fn = some vf) (hE : EnvOk P E) (n : Nat) (c : Ctr)
    (h : ∀ (args : List SV) (k : SV → List HO → Prop), CSat (c.of args) k → ∃ args', leL 0 0 args args' ∧ run E (answers c.alias k) vf.res n [.code vf.body] { fr := padL vf.ntmps args', saved := [], hp := [] }) : c.ok P f := by
  intro args vs z k hsat hx hc
  obtain ⟨args', hle, hrun⟩ := h args k hc
  have hk0 : KeepsG z.toWorld [] z.bd z.toWorld [] (z.wI z.I (ext_refl z)).bd := ⟨rfl, fun _ _ h => h, fun b hf cs T fz ho => ⟨ho, free_nil, hf.2, z.ex b hf.2⟩⟩
  have hx2 : RepL z.toWorld [] (z.wI z.I (ext_refl z)).bd args' vs := leL_ok cut_nil _ _ hle (XRepL.keepG hk0 hx).rep
  obtain ⟨body, hbody, hcode, hres, hnt⟩ := vfunc_inv hvf
  refine calls_of_wd (n := 0) (in_frame (b := vf.body) hf hbody ?_)
  refine run_sound (w0 := z) (fn0 := fn) (R0 := fun e w' => ∃ r hs v bs, ∃ J, ∃ hJ : Ext z J, k r hs ∧ e = .returned v ∧ Rep w' bs (z.wI J hJ).bd r v ∧ Hp w' bs (z.wI J hJ).bd hs ∧ BelowI z.bd z.toWorld w' ∧ (c.alias = false → freshS r ∧ freshH hs)) hE hres (by
    rintro r hp v w' bs D hD ⟨r', hk, hle, hfr⟩ hr hH hb
    refine ⟨r', [], v, [], D, hD, hk, rfl, le_ok cut_nil _ _ hle (.x _ _ (expo_ok hH hr)), hp0 fun b K hb => (hH.reg b K hb).2, hb, fun ha => ⟨hfr ha, trivial⟩⟩) n _ _ hrun [] [] none _
    { tmps := vs.toArray ++ Array.replicate (fn.ntmps - vs.toArray.size) undef, defers := [] } z.toWorld (.code body vf.body [] [] [] none _ hcode .nil) (D := z.I) (hD := ext_refl z) ?_
  refine ⟨[], ?_, .nil, hp0 (hJ := ext_refl z) hsat, BelowI.refl _ _, ⟨fun _ h => (by cases h), .nil, [[]], rfl, by simp, fun _ h => (by simp at h)⟩⟩
  have := padL_ok (n := fn.ntmps) hx2
  rw [hnt]
  simpa using this
def wrOps : List VOp → List Nat
  | [] => []
  | ⟨some d, _, _, _⟩ :: l => d :: wrOps l
  | ⟨none, _, _, _⟩ :: l => wrOps l
def wrAl : List (Nat × AL) → List Nat
  | [] => []
  | (d, _) :: l => d :: wrAl l
def wrDops : List DOp → List Nat
  | [] => []
  | ⟨⟨some d, _, _, _⟩, _⟩ :: l => d :: wrDops l
  | ⟨⟨none, _, _, _⟩, _⟩ :: l => wrDops l
def wrDtr : DTr → List Nat
  | .leaf => []
  | .ops l t => wrDops l ++ wrDtr t
  | .br a b => wrDtr a ++ wrDtr b
def wrC : VC → List Nat
  | .region l => wrOps l
  | .draw al l => wrAl al ++ wrDops l
  | .drawT al t => wrAl al ++ wrDtr t
  | .seq a b => wrC a ++ wrC b
  | .cond _ a b => wrC a ++ wrC b
  | .block _ c => wrC c
  | .loop c => wrC c
  | _ => []
def junkAt : List SV → List Nat → List SV
  | fr, [] => fr
  | fr, n :: l => junkAt (setL fr n .junk) l
def putAll : List SV → List (Nat × SV) → List SV
  | fr, [] => fr
  | fr, (n, v) :: l => putAll (setL fr n v) l
def putHs : List HO → List (Nat × HO) → List HO
  | hp, [] => hp
  | hp, (n, v) :: l => putHs (setH hp n v) l
def headOf (s : S) (body : VC) (ghosts : List HO) (slots : List (Nat × SV)) (blocks : List (Nat × HO)) : S :=
  { fr := putAll (junkAt s.fr (wrC body)) slots, saved := s.saved, hp := putHs (s.hp ++ ghosts) blocks }
theorem Loop.at {r : List It → S → Prop} {body : VC} {K : List It} {s : S} (σ : Type) (slots : σ → List (Nat × SV)) (blocks : σ → List (Nat × HO)) (ghosts : List HO) (inv : σ → Prop) (μ : σ → Nat)
    (h0 : ∃ x, inv x ∧ leS s (headOf s body ghosts (slots x) (blocks x)))
    (h : ∀ x, inv x → r (.code body :: .inLoop (fun s' => ∃ y, inv y ∧ μ y < μ x ∧ leS s' (headOf s body ghosts (slots y) (blocks y))) :: K) (headOf s body ghosts (slots x) (blocks x))) : Loop r body K s leP :=
  ⟨σ, fun x => headOf s body ghosts (slots x) (blocks x), inv, μ, leS, fun _ _ h => ⟨[], trivial, [], trivial, h⟩, h0, h⟩
def keepG : List Nat → List SV → List SV
  | [], l => junks l
  | _, [] => []
  | 0 :: ks, x :: l => x :: keepG ks l
  | (k + 1) :: ks, _ :: l => .junk :: keepG (k :: ks) l
def headK (s : S) (keep : List Nat) (ghosts : List HO) (slots : List (Nat × SV)) (blocks : List (Nat × HO)) : S :=
  { fr := putAll (keepG keep s.fr) slots, saved := s.saved, hp := putHs (s.hp ++ ghosts) blocks }
theorem Loop.keep {r : List It → S → Prop} {body : VC} {K : List It} {s : S} (keep : List Nat) (σ : Type) (slots : σ → List (Nat × SV)) (blocks : σ → List (Nat × HO)) (ghosts : List HO) (inv : σ → Prop) (μ : σ → Nat)
    (h0 : ∃ x, inv x ∧ leS s (headK s keep ghosts (slots x) (blocks x)))
    (h : ∀ x, inv x → r (.code body :: .inLoop (fun s' => ∃ y, inv y ∧ μ y < μ x ∧ leS s' (headK s keep ghosts (slots y) (blocks y))) :: K) (headK s keep ghosts (slots x) (blocks x))) : Loop r body K s leP :=
  ⟨σ, fun x => headK s keep ghosts (slots x) (blocks x), inv, μ, leS, fun _ _ h => ⟨[], trivial, [], trivial, h⟩, h0, h⟩
end
end Go.Vx
set_option linter.all false
namespace Go.Vx
variable {al : Bool} {k : SV → List HO → Prop} {hp : List HO} {m n : Nat}
theorem ans_int {κ : IntKind} {x : Int} (h : k (.int κ x) []) : answers al k (.int κ x) hp := ⟨_, h, by simp [expo, view, le], fun _ => by simp [freshS]⟩
theorem ans_bool {b : Bool} (h : k (.bool b) []) : answers al k (.bool b) hp := ⟨_, h, by simp [expo, view, le], fun _ => by simp [freshS]⟩
theorem ans_le {x r' : SV} (h : k r' []) (hl : le 0 0 (expo hp x) r') (hf : al = false → freshS r') : answers al k x hp := ⟨_, h, hl, hf⟩
theorem le_junk {x : SV} : le m n x .junk = True := by cases x <;> simp [le]
theorem le_int {κ κ' : IntKind} {x y : Int} : le m n (.int κ x) (.int κ' y) = (κ = κ' ∧ x = y) := by simp [le]
theorem le_bool {x y : Bool} : le m n (.bool x) (.bool y) = (x = y) := by simp [le]
theorem le_nil : le m n .nil .nil = True := by simp [le, bnd]
theorem le_agg {a b : List SV} : le m n (.agg a) (.agg b) = leL m n a b := by simp [le]
theorem le_tup {a b : List SV} : le m n (.tup a) (.tup b) = leL m n a b := by simp [le]
theorem le_vs {t t' z z' : Bool} {l l' sz sz' : Nat} {g g' : Nat → List SV} : le m n (.vs t z l sz g) (.vs t' z' l' sz' g') = ((t' = true → t = true) ∧ z = z' ∧ l = l' ∧ sz = sz' ∧ ∀ k, k < l → leXL (g k) (g' k)) := by simp [le]
theorem le_ptr {i o i' o' : Nat} : le m n (.ptr i o) (.ptr i' o') = (i = i' ∧ o = o' ∧ i' < n) := by simp [le, bnd, and_assoc]
theorem le_own {i lo l sz i' lo' l' sz' : Nat} : le m n (.own i lo l sz) (.own i' lo' l' sz') = (i = i' ∧ lo = lo' ∧ l = l' ∧ sz = sz' ∧ i < n) := by simp [le]
theorem le_xp {t t' : Bool} {c c' : List SV} : le m n (.xp t c) (.xp t' c') = ((t' = true → t = true) ∧ leXL c c') := by simp [le]
theorem le_fn {f f' : Fn} {a b a' b' : List SV} : le m n (.fn f a b) (.fn f' a' b') = (f = f' ∧ a = a' ∧ b = b' ∧ bndL n a' ∧ bndL n b') := by simp [le, bnd, and_assoc]
theorem le_opt {b b' : Bool} {x y : SV} : le m n (.opt b x) (.opt b' y) = (b = b' ∧ x = y ∧ bnd n y) := by simp [le, bnd, and_assoc]
theorem le_val {x y : Value} : le m n (.val x) (.val y) = (x = y) := by simp [le, bnd]
theorem le_elem {i k o sz i' k' o' sz' : Nat} : le m n (.elem i k o sz) (.elem i' k' o' sz') = (i = i' ∧ k = k' ∧ o = o' ∧ sz = sz' ∧ i' < n) := by simp [le, bnd, and_assoc]
theorem leXL_id {x : List SV} : leXL x x = True := eq_true (leXL_self x)
theorem le_nil_own {i lo l sz : Nat} : le m n .nil (.own i lo l sz) = (m ≤ i ∧ i < n ∧ lo = 0 ∧ l = 0) := by simp [le]
theorem le_nil_vs {t z : Bool} {l sz : Nat} {g : Nat → List SV} : le m n .nil (.vs t z l sz g) = (z = true ∧ l = 0) := by simp [le]
theorem leH_ghost {z : Bool} {sz l : Nat} {g : Nat → List SV} {r : List HO} : leH m n [] (.own z sz l g :: r) = (z = true ∧ l = 0 ∧ leH m n [] r) := rfl
theorem lenH_nil : lenH [] = 0 := rfl
theorem lenH_cons {x : HO} {a : List HO} : lenH (x :: a) = lenH a + 1 := rfl
theorem leL_nil : leL m n [] [] = True := by simp [leL]
theorem leL_cons {x y : SV} {a b : List SV} : leL m n (x :: a) (y :: b) = (le m n x y ∧ leL m n a b) := by simp [leL]
theorem leLL_nil : leLL m n [] [] = True := by simp [leLL]
theorem leLL_cons {x y : List SV} {a b : List (List SV)} : leLL m n (x :: a) (y :: b) = (leL m n x y ∧ leLL m n a b) := by simp [leLL]
theorem leH_nil {h : List HO} : leH m n h [] = True := by cases h <;> simp [leH]
theorem leH1_box {a b : List SV} : leH1 m n (.box a) (.box b) = leL m n a b := by simp [leH1]
theorem le_row {a : Nat} {C : Nat → Int → Prop} : le m n (.row a C) (.row a C) = True := eq_true ⟨rfl, trivial⟩
theorem le_rcell {C : Int → Prop} : le m n (.rcell C) (.rcell C) = True := eq_true ⟨rfl, trivial⟩
theorem le_imap {kk : List IntKind} {C : List Int → Int → Prop} : le m n (.imap kk C) (.imap kk C) = True := eq_true ⟨rfl, trivial⟩
theorem le_smp {i : Nat} : le m n (.smp i) (.smp i) = (i < n) := propext ⟨fun h => h.2, fun h => ⟨rfl, h⟩⟩
theorem bnd_row {a : Nat} {C : Nat → Int → Prop} : bnd n (.row a C) = True := rfl
theorem bnd_rcell {C : Int → Prop} : bnd n (.rcell C) = True := rfl
theorem bnd_imap {kk : List IntKind} {C : List Int → Int → Prop} : bnd n (.imap kk C) = True := rfl
theorem bnd_smp {i : Nat} : bnd n (.smp i) = (i < n) := rfl
theorem leH1_smap {l l' : List (List UInt8)} : leH1 m n (.smap l) (.smap l') = (l = l') := rfl
theorem leH1_gone : leH1 m n .gone .gone = True := by simp [leH1]
theorem leH1_own {z z' : Bool} {sz sz' l l' : Nat} {g g' : Nat → List SV} : leH1 m n (.own z sz l g) (.own z' sz' l' g') = (z = z' ∧ sz = sz' ∧ l = l' ∧ ∀ k, k < l → leL m n (g k) (g' k)) := by simp [leH1]
theorem leS_mk {fr fr' : List SV} {sv sv' : List (List SV)} {h h' : List HO} : leS ⟨fr, sv, h⟩ ⟨fr', sv', h'⟩ = (leL (lenH h) (lenH h') fr fr' ∧ leLL (lenH h) (lenH h') sv sv' ∧ leH (lenH h) (lenH h') h h') := rfl
theorem bnd_int {k : IntKind} {x : Int} : bnd n (.int k x) = True := rfl
theorem bnd_bool {b : Bool} : bnd n (.bool b) = True := rfl
theorem bnd_val {v : Value} : bnd n (.val v) = True := rfl
theorem bnd_nil : bnd n .nil = True := rfl
theorem bnd_junk : bnd n .junk = True := rfl
theorem bnd_vs {t z : Bool} {l sz : Nat} {g : Nat → List SV} : bnd n (.vs t z l sz g) = True := rfl
theorem bnd_xp {t : Bool} {c : List SV} : bnd n (.xp t c) = True := rfl
theorem bnd_agg {c : List SV} : bnd n (.agg c) = bndL n c := rfl
theorem bnd_tup {c : List SV} : bnd n (.tup c) = bndL n c := rfl
theorem bnd_ptr {i o : Nat} : bnd n (.ptr i o) = (i < n) := rfl
theorem bnd_own {i a b c : Nat} : bnd n (.own i a b c) = (i < n) := rfl
theorem bnd_elem {i a b c : Nat} : bnd n (.elem i a b c) = (i < n) := rfl
theorem bnd_fn {f : Fn} {a b : List SV} : bnd n (.fn f a b) = (bndL n a ∧ bndL n b) := rfl
theorem bnd_iface {t : TypeId} {v : SV} : bnd n (.iface t v) = bnd n v := rfl
theorem bnd_opt {b : Bool} {v : SV} : bnd n (.opt b v) = bnd n v := rfl
theorem bndL_nil : bndL n [] = True := rfl
theorem bndL_cons {x : SV} {l : List SV} : bndL n (x :: l) = (bnd n x ∧ bndL n l) := rfl
mutual
theorem le_self : ∀ (x : SV), bnd n x → le m n x x
  | .int _ _, _ => ⟨rfl, rfl⟩
  | .bool _, _ => rfl
  | .val _, h => ⟨rfl, h⟩
  | .nil, h => ⟨rfl, h⟩
  | .agg cs, h => leL_self cs h
  | .tup cs, h => leL_self cs h
  | .vs _ _ _ _ get, _ => ⟨id, rfl, rfl, rfl, fun k _ => leXL_self (get k)⟩
  | .xp _ cs, _ => ⟨id, leXL_self cs⟩
  | .ptr _ _, h => ⟨rfl, h⟩
  | .own _ _ _ _, h => ⟨rfl, rfl, rfl, rfl, h⟩
  | .elem _ _ _ _, h => ⟨rfl, h⟩
  | .fn _ _ _, h => ⟨rfl, h⟩
  | .iface _ _, h => ⟨rfl, h⟩
  | .opt _ _, h => ⟨rfl, h⟩
  | .cut _, h => ⟨rfl, h⟩
  | .row _ _, h => ⟨rfl, h⟩
  | .rcell _, h => ⟨rfl, h⟩
  | .imap _ _, h => ⟨rfl, h⟩
  | .smp _, h => ⟨rfl, h⟩
  | .junk, _ => trivial
theorem leL_self : ∀ (x : List SV), bndL n x → leL m n x x
  | [], _ => trivial
  | x :: l, h => ⟨le_self x h.1, leL_self l h.2⟩
end
mutual
theorem leX_le : ∀ (x y : SV), leX x y → bnd n y → le m n x y
  | .agg cs, y, h, hb => by
    cases y with
    | agg ds => exact leXL_le cs ds h hb
    | junk => trivial
    | _ => cases h
  | .tup cs, y, h, hb => by
    cases y with
    | tup ds => exact leXL_le cs ds h hb
    | junk => trivial
    | _ => cases h
  | .int _ _, y, h, hb => by cases y <;> first | trivial | exact h | cases h
  | .bool _, y, h, hb => by cases y <;> first | trivial | exact h | cases h
  | .val _, y, h, hb => by cases y <;> first | trivial | (cases h; done) | (cases h; exact ⟨rfl, hb⟩)
  | .nil, y, h, hb => by cases y <;> first | trivial | exact h | (cases h; done) | (cases h; exact ⟨rfl, hb⟩)
  | .vs _ _ _ _ _, y, h, hb => by cases y <;> first | trivial | exact h | cases h
  | .xp _ _, y, h, hb => by cases y <;> first | trivial | exact h | cases h
  | .ptr _ _, y, h, hb => by cases y <;> first | trivial | (cases h; done) | (cases h; exact ⟨rfl, hb⟩)
  | .own _ _ _ _, y, h, hb => by cases y <;> first | trivial | (cases h; done) | (cases h; exact ⟨rfl, rfl, rfl, rfl, hb⟩)
  | .elem _ _ _ _, y, h, hb => by cases y <;> first | trivial | (cases h; done) | (cases h; exact ⟨rfl, hb⟩)
  | .fn _ _ _, y, h, hb => by cases y <;> first | trivial | (cases h; done) | (cases h; exact ⟨rfl, hb⟩)
  | .iface _ _, y, h, hb => by cases y <;> first | trivial | (cases h; done) | (cases h; exact ⟨rfl, hb⟩)
  | .opt _ _, y, h, hb => by cases y <;> first | trivial | (cases h; done) | (cases h; exact ⟨rfl, hb⟩)
  | .cut _, y, h, hb => by cases y <;> first | trivial | (cases h; done) | (cases h; exact ⟨rfl, hb⟩)
  | .row _ _, y, h, hb => by cases y <;> first | trivial | (cases h; done) | (cases h; exact ⟨rfl, hb⟩)
  | .rcell _, y, h, hb => by cases y <;> first | trivial | (cases h; done) | (cases h; exact ⟨rfl, hb⟩)
  | .imap _ _, y, h, hb => by cases y <;> first | trivial | (cases h; done) | (cases h; exact ⟨rfl, hb⟩)
  | .smp _, y, h, hb => by cases y <;> first | trivial | (cases h; done) | (cases h; exact ⟨rfl, hb⟩)
  | .junk, y, h, hb => by cases y <;> first | trivial | (cases h; done)
theorem leXL_le : ∀ (x y : List SV), leXL x y → bndL n y → leL m n x y
  | [], y, h, hb => by
    cases y with
    | nil => trivial
    | cons _ _ => exact h.elim
  | x :: l, y, h, hb => by
    cases y with
    | nil => exact h.elim
    | cons a r => exact ⟨leX_le x a h.1 hb.1, leXL_le l r h.2 hb.2⟩
end
theorem bndL_take : ∀ (k : Nat) (l : List SV), bndL n l → bndL n (takeL k l)
  | 0, _, _ => trivial
  | _ + 1, [], _ => trivial
  | k + 1, _ :: l, h => ⟨h.1, bndL_take k l h.2⟩
theorem bndL_drop : ∀ (k : Nat) (l : List SV), bndL n l → bndL n (dropL k l)
  | 0, _, h => h
  | _ + 1, [], _ => trivial
  | k + 1, _ :: l, h => bndL_drop k l h.2
theorem leL_chunk {sz k : Nat} {cs : List SV} (h : bndL n cs = True) : leL m n (chunk sz cs k) (chunk sz cs k) = True :=
  eq_true (leL_self _ (bndL_take _ _ (bndL_drop _ _ (of_eq_true h))))
theorem subLo_z (n : Nat) : subLo n 0 = n := rfl
theorem addLo_z (k : Nat) : addLo 0 k = k := rfl
theorem subLo_one (n : Nat) : subLo n (Int.toNat 1) = n - 1 := rfl
theorem addLo_one (k : Nat) : addLo (Int.toNat 1) k = 1 + k := rfl
end Go.Vx
set_option linter.all false
namespace Go.Vx
open Go.RowKit Go.WideShapes Go.ChangeShapes
inductive Sh where
  | int (k : IntKind)
  | bool
  | str
  | slice (l : List Sh)
def lenSh : List Sh → Nat
  | [] => 0
  | _ :: l => lenSh l + 1
mutual
def okS : Sh → SV → Prop
  | .int k, v => ∃ n, v = .int k n ∧ (Lit.int k n).wf = true
  | .bool, v => ∃ b, v = .bool b
  | .str, v => ∃ s : ByteArray, v = .val (.string s) ∧ s.size ≤ maxLen
  | .slice l, v => ∃ z n get, v = .vs false z n (lenSh l) get ∧ n ≤ maxLen ∧ ∀ k, k < n → okSL l (get k)
def okSL : List Sh → List SV → Prop
  | [], [] => True
  | s :: l, v :: r => okS s v ∧ okSL l r
  | _, _ => False
end
def flatFields (P : Program) (fl : TypeId → Option (List Sh)) : Nat → List Field → Option (List Sh)
  | _, [] => some []
  | off, f :: fs => bif Nat.beq f.offset off then (fl f.type).bind fun l => bif Nat.beq (lenSh l) (P.cellsOf f.type) then (flatFields P fl (off + P.cellsOf f.type) fs).map (l ++ ·) else none else none
def repSh : Nat → List Sh → List Sh
  | 0, _ => []
  | n + 1, l => l ++ repSh n l
def flat (P : Program) : Nat → TypeId → Option (List Sh)
  | 0, _ => none
  | n + 1, t => match P.underlying t with
    | some (.int k) => some [.int k]
    | some .bool => some [.bool]
    | some .string => some [.str]
    | some (.slice e) => (flat P n e).bind fun l => bif Nat.beq (lenSh l) (P.cellsOf e) then (bif Nat.ble 1 (lenSh l) then some [.slice l] else none) else none
    | some (.struct fs) => (flatFields P (flat P n) 0 fs.toList).bind fun l => bif Nat.beq (lenSh l) (P.cellsOf t) then some l else none
    | some (.array m e) => (flat P n e).bind fun l => bif Nat.beq (lenSh l) (P.cellsOf e) then (bif Nat.beq (m * P.cellsOf e) (P.cellsOf t) then some (repSh m l) else none) else none
    | _ => none
theorem lenSh_app : ∀ (a b : List Sh), lenSh (a ++ b) = lenSh a + lenSh b
  | [], b => by simp [lenSh]
  | _ :: a, b => by simp [lenSh, lenSh_app a b]; omega
theorem okSL_app : ∀ {a b : List Sh} {x y : List SV}, okSL a x → okSL b y → okSL (a ++ b) (x ++ y)
  | [], _, [], _, _, h => h
  | [], _, _ :: _, _, h, _ => h.elim
  | _ :: _, _, [], _, h, _ => h.elim
  | _ :: _, _, _ :: _, _, h, h' => ⟨h.1, okSL_app h.2 h'⟩
def bd0 (n : Nat) : Bd := ⟨n, fun _ => True, fun _ => none, fun _ _ _ => trivial, fun _ _ => rfl⟩
def cx0 (w : World) : Cx0 := { toWorld := w, F := fun _ => True, I := fun _ => none, up := fun _ _ _ => trivial, ex := fun _ _ => rfl }
section
variable {H : Type} {enc : TypeId × Value → H} {P : Program} {w : World} {B : Nat} {base : Nat} {spare : Nat → Bool} {held : Bool}
theorem XRepL.append : ∀ {l r : List SV} {vs us : List Value}, XRepL w [] (bd0 B) l vs → XRepL w [] (bd0 B) r us → XRepL w [] (bd0 B) (l ++ r) (vs ++ us)
  | _, _, _, _, .nil, h => h
  | _, _, _, _, .cons x v l vs h h', hr => .cons _ _ _ _ h (XRepL.append h' hr)
theorem flatFields_rep {fl : TypeId → Option (List Sh)} {fuel : Nat} {cs : List Value}
    (ih : ∀ (t : TypeId) (cs : List Value) (x : DataW H × List MemPlace) (l : List Sh), fl t = some l → DataW.trod enc P w base spare held fuel t cs = some x → ∃ svs, XRepL w [] (bd0 B) svs cs ∧ okSL l svs) :
    ∀ (fs : List Field) (off : Nat) (l : List Sh), flatFields P fl off fs = some l → (∀ f ∈ fs, ∃ x, DataW.trod enc P w base spare held fuel f.type ((cs.drop f.offset).take (P.cellsOf f.type)) = some x) → off + lenSh l = cs.length →
      ∃ svs, XRepL w [] (bd0 B) svs (cs.drop off) ∧ okSL l svs
  | [], off, l, h, _, hl => by
    simp only [flatFields, Option.some.injEq] at h
    subst h
    simp only [lenSh, Nat.add_zero] at hl
    refine ⟨[], ?_, trivial⟩
    rw [List.drop_of_length_le (by omega)]; exact .nil
  | f :: fs, off, l, h, hall, hl => by
    unfold flatFields at h
    cases hb : Nat.beq f.offset off with
    | false => rw [hb] at h; cases h
    | true =>
      rw [hb] at h
      have ho := Nat.eq_of_beq_eq_true hb
      obtain ⟨l1, h1, h⟩ := Option.bind_eq_some_iff.1 h
      cases hb2 : Nat.beq (lenSh l1) (P.cellsOf f.type) with
      | false => rw [hb2] at h; cases h
      | true =>
        rw [hb2] at h
        have hsz := Nat.eq_of_beq_eq_true hb2
        obtain ⟨l2, h2, rfl⟩ := Option.map_eq_some_iff.1 h
        obtain ⟨x, hx⟩ := hall f List.mem_cons_self
        obtain ⟨s1, r1, o1⟩ := ih _ _ _ _ h1 hx
        obtain ⟨s2, r2, o2⟩ := flatFields_rep ih fs _ _ h2 (fun g hg => hall g (List.mem_cons_of_mem _ hg)) (by rw [lenSh_app] at hl; omega)
        refine ⟨s1 ++ s2, ?_, okSL_app o1 o2⟩
        have := r1.append r2
        rw [ho] at this
        have e : (cs.drop off).take (P.cellsOf f.type) ++ cs.drop (off + P.cellsOf f.type) = cs.drop off := by
          rw [← List.drop_drop]; exact List.take_append_drop _ _
        rwa [e] at this
theorem flatArr_rep {fuel : Nat} {cs : List Value} {e : TypeId} {l : List Sh} (hs : lenSh l = P.cellsOf e)
    (ih : ∀ (cs : List Value) (x : DataW H × List MemPlace), DataW.trod enc P w base spare held fuel e cs = some x → ∃ svs, XRepL w [] (bd0 B) svs cs ∧ okSL l svs) :
    ∀ (k j : Nat), (∀ i, j ≤ i → i < j + k → ∃ x, DataW.trod enc P w base spare held fuel e ((cs.drop (i * P.cellsOf e)).take (P.cellsOf e)) = some x) → j * P.cellsOf e + k * P.cellsOf e = cs.length →
      ∃ svs, XRepL w [] (bd0 B) svs (cs.drop (j * P.cellsOf e)) ∧ okSL (repSh k l) svs
  | 0, j, _, hl => by
    refine ⟨[], ?_, trivial⟩
    rw [List.drop_of_length_le (by omega)]; exact .nil
  | k + 1, j, hall, hl => by
    obtain ⟨x, hx⟩ := hall j (Nat.le_refl _) (by omega)
    obtain ⟨s1, r1, o1⟩ := ih _ _ hx
    obtain ⟨s2, r2, o2⟩ := flatArr_rep hs ih k (j + 1) (fun i h1 h2 => hall i (by omega) (by omega)) (by rw [Nat.succ_mul] at hl ⊢; omega)
    refine ⟨s1 ++ s2, ?_, okSL_app o1 o2⟩
    have := r1.append r2
    have e : (cs.drop (j * P.cellsOf e)).take (P.cellsOf e) ++ cs.drop ((j + 1) * P.cellsOf e) = cs.drop (j * P.cellsOf e) := by
      rw [Nat.succ_mul, ← List.drop_drop]; exact List.take_append_drop _ _
    rwa [e] at this
theorem mapM_some {α β : Type} {g : α → Option β} : ∀ {l : List α} {r : List β}, l.mapM g = some r → ∀ x ∈ l, ∃ y, g x = some y
  | [], _, _, x, hx => by cases hx
  | a :: l, r, h, x, hx => by
    rw [List.mapM_cons] at h
    cases ha : g a with
    | none => rw [ha] at h; cases h
    | some y =>
      rw [ha] at h
      cases hl : l.mapM g with
      | none => rw [hl] at h; cases h
      | some ys =>
        rcases List.mem_cons.1 hx with rfl | hx
        · exact ⟨y, ha⟩
        · exact mapM_some hl x hx
theorem cells_get {a : Addr} {n : Nat} {cs : List Value} (h : w.cells? base a n = some cs) : cs.length = n ∧ ∀ j v, cs[j]? = some v → w.cell? (a.add j) = some v := by
  unfold World.cells? at h
  split at h
  · have key : ∀ (l : List Nat) (r : List Value), l.mapM (fun i => w.cell? (a.add i)) = some r → r.length = l.length ∧ ∀ (j : Nat) (v : Value), r[j]? = some v → ∃ i, l[j]? = some i ∧ w.cell? (a.add i) = some v := by
      intro l
      induction l with
      | nil => intro r h; simp at h; subst h; exact ⟨rfl, fun j v h => by simp at h⟩
      | cons i l ih =>
        intro r h
        rw [List.mapM_cons] at h
        cases hi : w.cell? (a.add i) with
        | none => rw [hi] at h; cases h
        | some v0 =>
          rw [hi] at h
          cases hl : l.mapM (fun i => w.cell? (a.add i)) with
          | none => rw [hl] at h; cases h
          | some r' =>
            rw [hl] at h
            cases h
            obtain ⟨h1, h2⟩ := ih r' hl
            refine ⟨by simp [h1], fun j v hj => ?_⟩
            cases j with
            | zero => simp only [List.getElem?_cons_zero, Option.some.injEq] at hj; subst hj; exact ⟨i, rfl, hi⟩
            | succ j => obtain ⟨i', k1, k2⟩ := h2 j v (by simpa using hj); exact ⟨i', by simpa using k1, k2⟩
    obtain ⟨h1, h2⟩ := key _ _ h
    refine ⟨by simpa using h1, fun j v hj => ?_⟩
    obtain ⟨i, k1, k2⟩ := h2 j v hj
    have : j < n := by
      have := (List.getElem?_eq_some_iff.1 hj).1
      simp at h1; omega
    rw [List.getElem?_range this] at k1
    cases k1; exact k2
  · cases h
theorem cell_block {a : Addr} {v : Value} (h : w.cell? a = some v) : a.spot = none ∧ ∃ cs T fz, w.heap[a.block]? = some (.cells cs T fz) ∧ cs[a.off]? = some v := by
  unfold World.cell? at h
  split at h
  · split at h
    · cases h
    · rename_i hs
      exact ⟨by cases hq : a.spot with | none => rfl | some _ => rw [hq] at hs; simp at hs, _, _, _, ‹_›, h⟩
  · cases h
theorem trod_rep : ∀ (n fuel : Nat) (t : TypeId) (cs : List Value) (x : DataW H × List MemPlace) (l : List Sh), flat P n t = some l → DataW.trod enc P w base spare held fuel t cs = some x → ∃ svs, XRepL w [] (bd0 B) svs cs ∧ okSL l svs := by
  intro n
  induction n with
  | zero => intro fuel t cs x l h; cases h
  | succ n ih =>
    intro fuel t cs x l h hx
    unfold flat at h
    split at h
    · rename_i k hu
      cases h
      obtain ⟨m, rfl, _, hw⟩ := DataW.trod_int hu hx
      exact ⟨[.int k m], .cons _ _ _ _ (.int _ _) .nil, ⟨m, rfl, hw⟩, trivial⟩
    · rename_i hu
      cases h
      obtain ⟨b, rfl, _⟩ := DataW.trod_bool hu hx
      exact ⟨[.bool b], .cons _ _ _ _ (.bool _) .nil, ⟨b, rfl⟩, trivial⟩
    · rename_i hu
      cases h
      obtain ⟨s, rfl, _, hs⟩ := DataW.trod_string hu hx
      exact ⟨[.val (.string s)], .cons _ _ _ _ (.val _) .nil, ⟨s, rfl, hs⟩, trivial⟩
    · rename_i e hu
      obtain ⟨le, he, h⟩ := Option.bind_eq_some_iff.1 h
      cases hb : Nat.beq (lenSh le) (P.cellsOf e) with
      | false => rw [hb] at h; cases h
      | true =>
      rw [hb] at h
      have hsz := Nat.eq_of_beq_eq_true hb
      cases hb1 : Nat.ble 1 (lenSh le) with
      | false => rw [hb1] at h; cases h
      | true =>
      rw [hb1] at h
      have hpos := Nat.le_of_ble_eq_true hb1
      cases h
      rcases Deep.open_slice hu hx with ⟨rfl, _⟩ | ⟨a, len, cap, m, fu, D, Pl, rfl, hba, hlc, hcm, hm, _, hel⟩
      · exact ⟨[.vs false true 0 (lenSh le) fun _ => []], .cons _ _ _ _ (.vs _ _ _ _ _ none 0 (fun _ => []) rfl (Nat.le_refl _) (fun _ => ⟨rfl, rfl⟩) (fun k hk => by omega) (fun k hk => by omega)) .nil,
          ⟨true, 0, _, rfl, Nat.zero_le _, fun k hk => by omega⟩, trivial⟩
      · have hlm : len ≤ m := by rw [hm]; split <;> omega
        have hel' : ∀ k, ∃ vals svs, k < len → w.cells? base (a.add (k * P.cellsOf e)) (P.cellsOf e) = some vals ∧ XRepL w [] (bd0 B) svs vals ∧ okSL le svs := by
          intro k
          by_cases hk : k < len
          · obtain ⟨cs', h1, h2⟩ := hel k (by omega)
            obtain ⟨svs, h3, h4⟩ := ih fu e cs' _ _ he h2
            exact ⟨cs', svs, fun _ => ⟨h1, h3, h4⟩⟩
          · exact ⟨[], [], fun h => absurd h hk⟩
        obtain ⟨vals, hv⟩ := Classical.axiomOfChoice hel'
        obtain ⟨get, hg⟩ := Classical.axiomOfChoice hv
        refine ⟨[.vs false false len (lenSh le) get], .cons _ _ _ _ (.vs _ _ _ _ _ (some a) cap vals rfl hlc (fun h => by cases h) (fun k hk => ?_) (fun k hk => (hg k hk).2.1)) .nil, ⟨false, len, get, rfl, by omega, fun k hk => (hg k hk).2.2⟩, trivial⟩
        have h0 := (hg 0 (by omega)).1
        obtain ⟨l0, c0⟩ := cells_get h0
        have hsp : a.spot = none := by
          cases hv0 : vals 0 with
          | nil => rw [hv0] at l0; simp at l0; omega
          | cons v r =>
            have := (cell_block (c0 0 v (by rw [hv0]; rfl))).1
            simpa [Addr.add] using this
        obtain ⟨lk, ck⟩ := cells_get (hg k hk).1
        refine ⟨a, rfl, hsp, ⟨free_nil, trivial⟩, (fun h => by cases h), by rw [lk, hsz], ?_⟩
        cases hvk : vals k with
        | nil => rw [hvk] at lk; simp at lk; omega
        | cons v r =>
          rw [hvk] at ck
          have e1 : ∀ j, (a.add (k * P.cellsOf e)).add j = ⟨a.block, a.off + k * P.cellsOf e + j, none⟩ := by
            intro j
            obtain ⟨ab, ao, asp⟩ := a
            simp only at hsp
            subst hsp
            unfold Addr.add
            split <;> split <;> simp_all <;> omega
          obtain ⟨_, cs2, T, fz, hb, hc⟩ := cell_block (ck 0 v rfl)
          rw [e1] at hb
          refine ⟨cs2, T, fz, hb, fun j u hj => ?_⟩
          obtain ⟨_, cs3, T3, fz3, hb3, hc3⟩ := cell_block (ck j u hj)
          rw [e1] at hb3 hc3
          simp only at hb hb3 hc3
          rw [hb] at hb3; cases hb3
          rw [hsz]
          exact hc3
    · rename_i fs hu
      obtain ⟨l0, hf, h⟩ := Option.bind_eq_some_iff.1 h
      cases hb : Nat.beq (lenSh l0) (P.cellsOf t) with
      | false => rw [hb] at h; cases h
      | true =>
        rw [hb] at h
        cases h
        have hsz := Nat.eq_of_beq_eq_true hb
        cases fuel with
        | zero => simp [DataW.trod] at hx
        | succ fuel =>
          unfold DataW.trod at hx
          rw [hu] at hx
          simp only at hx
          split at hx
          · rename_i hlen
            obtain ⟨xs, hxs, _⟩ := Option.map_eq_some_iff.1 hx
            have := flatFields_rep (cs := cs) (B := B) (fun t cs x l h h' => ih fuel t cs x l h h') fs.toList 0 l hf (fun f hf => mapM_some hxs f hf) (by omega)
            simpa using this
          · cases hx
    · rename_i m e hu
      obtain ⟨l0, hf, h⟩ := Option.bind_eq_some_iff.1 h
      cases hb : Nat.beq (lenSh l0) (P.cellsOf e) with
      | false => rw [hb] at h; cases h
      | true =>
        rw [hb] at h
        have hsz := Nat.eq_of_beq_eq_true hb
        cases hb2 : Nat.beq (m * P.cellsOf e) (P.cellsOf t) with
        | false => rw [hb2] at h; cases h
        | true =>
          rw [hb2] at h
          cases h
          have hsz2 := Nat.eq_of_beq_eq_true hb2
          cases fuel with
          | zero => simp [DataW.trod] at hx
          | succ fuel =>
            unfold DataW.trod at hx
            rw [hu] at hx
            simp only at hx
            split at hx
            · rename_i hlen
              obtain ⟨xs, hxs, _⟩ := Option.map_eq_some_iff.1 hx
              have := flatArr_rep (cs := cs) (B := B) hsz (fun cs x h' => ih fuel e cs x l0 hf h') m 0 (fun i _ hi => mapM_some hxs i (List.mem_range.2 (by omega))) (by omega)
              simpa using this
            · cases hx
    · cases h
structure PSh where
  agg : Bool
  l : List Sh
def okP (p : PSh) (v : SV) : Prop :=
  match p.agg with
  | true => ∃ cs, v = .agg cs ∧ okSL p.l cs
  | false => okSL p.l [v]
def okPL : List PSh → List SV → Prop
  | [], [] => True
  | p :: l, v :: r => okP p v ∧ okPL l r
  | _, _ => False
def pflat (P : Program) (t : TypeId) : Option PSh :=
  (flat P 16 t).bind fun l => match P.underlying t with
    | some (.struct _) => some ⟨true, l⟩
    | some (.array _ _) => some ⟨true, l⟩
    | some (.int _) | some .bool | some .string | some (.slice _) => some ⟨false, l⟩
    | _ => none
def pflats (P : Program) : List TypeId → Option (List PSh)
  | [] => some []
  | t :: l => (pflat P t).bind fun p => (pflats P l).map (p :: ·)
theorem flat_one {n : Nat} {t : TypeId} {l : List Sh} (h : flat P n t = some l) (hu : (∃ k, P.underlying t = some (.int k)) ∨ P.underlying t = some .bool ∨ P.underlying t = some .string ∨ ∃ e, P.underlying t = some (.slice e)) : ∃ s, l = [s] := by
  cases n with
  | zero => cases h
  | succ n =>
    unfold flat at h
    rcases hu with ⟨k, hu⟩ | hu | hu | ⟨e, hu⟩ <;> rw [hu] at h <;> simp only at h
    · cases h; exact ⟨_, rfl⟩
    · cases h; exact ⟨_, rfl⟩
    · cases h; exact ⟨_, rfl⟩
    · obtain ⟨le, _, h⟩ := Option.bind_eq_some_iff.1 h
      cases hb : Nat.beq (lenSh le) (P.cellsOf e) with
      | false => rw [hb] at h; cases h
      | true =>
        rw [hb] at h
        cases hb1 : Nat.ble 1 (lenSh le) with
        | false => rw [hb1] at h; cases h
        | true => rw [hb1] at h; cases h; exact ⟨_, rfl⟩
theorem param_rep {r : Reach} {b0 : Nat} {t : TypeId} {v : Value} {d : DataW H} {ps : List MemPlace} {p : PSh} (hp : pflat P t = some p) (hval : Value.okWide P w r b0 t v) (hd : DataW.Trod enc P w base spare held t v d ps) : ∃ sv, XRep w [] (bd0 B) sv v ∧ okP p sv := by
  obtain ⟨fuel, hf⟩ := id hd
  unfold pflat at hp
  obtain ⟨l, hl, hp⟩ := Option.bind_eq_some_iff.1 hp
  obtain ⟨svs, h1, h2⟩ := trod_rep (B := B) 16 fuel t _ _ l hl hf
  have one : ∀ (c : Value), v.cells.toList = [c] → v = c → (∃ s, l = [s]) → ∃ sv, XRep w [] (bd0 B) sv v ∧ okP ⟨false, l⟩ sv := by
    rintro c hc rfl ⟨s, rfl⟩
    rw [hc] at h1
    cases h1 with
    | cons sv _ svs' _ k1 k2 =>
      cases k2
      exact ⟨sv, k1, h2⟩
  split at hp
  · rename_i fs hu
    cases hp
    unfold Value.okWide at hval
    rw [hu] at hval
    simp only at hval
    obtain ⟨cs, rfl, _⟩ := hval
    refine ⟨.agg svs, ?_, svs, rfl, h2⟩
    have := XRep.agg (w := w) (bs := []) (B := bd0 B) svs cs.toList h1
    simpa using this
  · rename_i m e hu
    cases hp
    unfold Value.okWide at hval
    rw [hu] at hval
    simp only at hval
    obtain ⟨cs, rfl, _⟩ := hval
    refine ⟨.agg svs, ?_, svs, rfl, h2⟩
    have := XRep.agg (w := w) (bs := []) (B := bd0 B) svs cs.toList h1
    simpa using this
  · rename_i k hu
    cases hp
    obtain ⟨n, rfl⟩ := okWide_int hu hval
    exact one _ rfl rfl (flat_one hl (.inl ⟨_, hu⟩))
  · rename_i hu
    cases hp
    obtain ⟨n, rfl⟩ := okWide_bool hu hval
    exact one _ rfl rfl (flat_one hl (.inr (.inl hu)))
  · rename_i hu
    cases hp
    obtain ⟨n, rfl⟩ := okWide_string hu hval
    exact one _ rfl rfl (flat_one hl (.inr (.inr (.inl hu))))
  · rename_i e hu
    cases hp
    obtain ⟨a, len, cap, rfl⟩ := okWide_slice hu hval
    exact one _ rfl rfl (flat_one hl (.inr (.inr (.inr ⟨_, hu⟩))))
  · cases hp
theorem params_rep {r : Reach} {b0 : Nat} : ∀ {ts : List TypeId} {vs : List Value} {ds : List (DataW H)} {ps : List MemPlace} {shs : List PSh}, pflats P ts = some shs → (∀ (j : Nat) t v, ts[j]? = some t → vs[j]? = some v → Value.okWide P w r b0 t v) →
    DataW.TrodAll enc P w base spare held ts vs ds ps → ∃ svs, XRepL w [] (bd0 B) svs vs ∧ okPL shs svs
  | [], vs, ds, ps, shs, h, _, hd => by
    simp only [pflats, Option.some.injEq] at h
    subst h
    obtain ⟨rfl, _, _⟩ := trodAll_nil hd
    exact ⟨[], .nil, trivial⟩
  | t :: ts, vs, ds, ps, shs, h, hv, hd => by
    unfold pflats at h
    obtain ⟨p, hp, h⟩ := Option.bind_eq_some_iff.1 h
    obtain ⟨shs', hs, rfl⟩ := Option.map_eq_some_iff.1 h
    obtain ⟨v, vs', d, ds', p1, q1, rfl, rfl, rfl, h1, h2⟩ := trodAll_cons hd
    obtain ⟨sv, k1, k2⟩ := param_rep (B := B) hp (hv 0 t v rfl rfl) h1
    obtain ⟨svs, k3, k4⟩ := params_rep hs (fun j t' v' ht hv' => hv (j + 1) t' v' (by simpa using ht) (by simpa using hv')) h2
    exact ⟨sv :: svs, .cons _ _ _ _ k1 k3, k2, k4⟩
end
def readB (P : Program) (ts : List TypeId) : Bool := ts.all fun t => P.readableRec t && Nat.blt t P.types.size
theorem params_again {H : Type} {enc : TypeId × Value → H} {P : Program} (hl : laidOutB P = true) {W W' : World} (hb : Below W.heap.size W W') :
    ∀ {ts : List TypeId} {vs : List Value} {ds : List (DataW H)} {ps : List MemPlace}, readB P ts = true → DataW.TrodAll enc P W 0 (fun _ => true) true ts vs ds ps → DataW.TrodAll enc P W' 0 (fun b => decide (b < W.heap.size)) true ts vs ds ps
  | [], vs, ds, ps, _, h => by
    obtain ⟨rfl, rfl, rfl⟩ := trodAll_nil h
    rfl
  | t :: ts, vs, ds, ps, hr, h => by
    obtain ⟨v, vs', d, ds', p1, q1, rfl, rfl, rfl, h1, h2⟩ := trodAll_cons h
    simp only [readB, List.all_cons, Bool.and_eq_true] at hr
    have hlt : ∀ x ∈ p1, x.block < W.heap.size := by obtain ⟨m, hm⟩ := h1; exact DataW.trod_lt m _ _ _ hm
    refine ⟨_, _, Below.trod hl hr.1.1 ?_ h1 hb hlt, params_again hl hb hr.2 h2, rfl⟩
    have := hr.1.2
    simpa using this
theorem trodAll_len {H : Type} {enc : TypeId × Value → H} {P : Program} {W : World} {base : Nat} {spare : Nat → Bool} {held : Bool} :
    ∀ {ts : List TypeId} {vs : List Value} {ds : List (DataW H)} {ps : List MemPlace}, DataW.TrodAll enc P W base spare held ts vs ds ps → ds.length = ts.length
  | [], vs, ds, ps, h => by obtain ⟨_, rfl, _⟩ := trodAll_nil h; rfl
  | t :: ts, vs, ds, ps, h => by
    obtain ⟨v, vs', d, ds', p1, q1, rfl, rfl, rfl, h1, h2⟩ := trodAll_cons h
    simp [trodAll_len h2]
theorem okSL_cons_inv {s : Sh} {l : List Sh} {c : List SV} (h : okSL (s :: l) c) : ∃ x r, c = x :: r ∧ okS s x ∧ okSL l r := by
  cases c with
  | nil => exact h.elim
  | cons x r => exact ⟨x, r, rfl, h.1, h.2⟩
theorem okSL_nil_inv {c : List SV} (h : okSL [] c) : c = [] := by
  cases c with
  | nil => rfl
  | cons x r => exact h.elim
theorem okPL_cons_inv {p : PSh} {l : List PSh} {c : List SV} (h : okPL (p :: l) c) : ∃ x r, c = x :: r ∧ okP p x ∧ okPL l r := by
  cases c with
  | nil => exact h.elim
  | cons x r => exact ⟨x, r, rfl, h.1, h.2⟩
theorem okPL_nil_inv {c : List SV} (h : okPL [] c) : c = [] := by
  cases c with
  | nil => rfl
  | cons x r => exact h.elim
theorem okP_agg_inv {l : List Sh} {v : SV} (h : okP ⟨true, l⟩ v) : ∃ cs, v = .agg cs ∧ okSL l cs := h
theorem okP_one_inv {s : Sh} {v : SV} (h : okP ⟨false, [s]⟩ v) : okS s v := h.1
theorem list_of {α : Type} [Inhabited α] {n : Nat} {P : Nat → α → Prop} (h : ∀ k, k < n → ∃ x, P k x) : ∃ l : List α, l.length = n ∧ ∀ k, k < n → P k (l.getD k default) := by
  induction n with
  | zero => exact ⟨[], rfl, fun k hk => absurd hk (Nat.not_lt_zero _)⟩
  | succ n ih =>
    obtain ⟨l, h1, h2⟩ := ih fun k hk => h k (by omega)
    obtain ⟨x, hx⟩ := h n (by omega)
    refine ⟨l ++ [x], by simp [h1], fun k hk => ?_⟩
    rcases Nat.lt_or_ge k n with h' | h'
    · have := h2 k h'
      rw [List.getD_eq_getElem?_getD] at this ⊢
      rwa [List.getElem?_append_left (by omega)]
    · obtain rfl : k = n := by omega
      rw [List.getD_eq_getElem?_getD, List.getElem?_append_right (by omega), h1, Nat.sub_self]
      exact hx
def lawC (shs : List PSh) : Ctr := { alias := false, of := fun l => .pre (okPL shs l) (.fin (.bool true) []) }
theorem law_lifted {C : Checked} {f : FuncId} {fn : Func} {s : ChangeSpec} {dom : List PathCond} {os : Os} {H : Type} {enc : TypeId × Value → H} {shs : List PSh} {tb : TypeId}
    (own : ownKnob C.prog.godebug = none) (started : os.Started) (noInit : C.prog.inits.idxOf? f = none) (hfn : C.prog.funcs[f]? = some fn) (hl : laidOutB C.prog = true)
    (witness : ∃ (w : World) (tape : Tape) (i : Input), w.os = os ∧ (w.forCall tape i).Shaped C.prog ∧ i.vars = [] ∧ Input.okWide C.prog (w.forCall tape i) .any w.heap.size f i ∧
      s.pre6 enc C.prog fn dom false (w.forCall tape i).memory i.args ∧ ({} : Assume).holds C.prog (lone (Frame.enter C.prog f i.args .normal) [] (w.forCall tape i)))
    (hsh : pflats C.prog fn.params.toList = some shs) (hread : readB C.prog fn.params.toList = true) (hres : fn.resultTypes.toList = [tb]) (htb : C.prog.underlying tb = some .bool) (hvars : s.vars = [])
    (hspec : ∀ ds : List (DataW H), ds.length = fn.params.toList.length → (s.fn H ds).results = [.lit (.bool true)] ∧ (s.fn H ds).args = ds ∧ (s.fn H ds).vars = []) (hc : (lawC shs).ok C.prog f) :
    ReturnsInHanded {} C os f .any (s.pre6 enc C.prog fn dom false) (s.post enc C.prog fn false true false false) := by
  refine returnsInHanded_of_change own started noInit hfn witness ?_
  intro W base args ds gs before hval hW hcnd _
  obtain ⟨p, q, hA, hV, hbef, hfz, hnd⟩ := id hW
  have hlen := trodAll_len hA
  rw [hvars] at hV
  obtain ⟨rfl, rfl⟩ := trodVars_none hV
  obtain ⟨svs, k1, k2⟩ := params_rep (B := W.heap.size) hsh (fun j t v ht hv => hval j t v (by simpa using ht) (by simpa using hv)) hA
  have hcall := hc svs args.toList (cx0 W) (fun r hs => r = .bool true) (fun b K h => by cases h) k1 ⟨k2, rfl⟩
  simp only [Array.toArray_toList] at hcall
  refine hcall.mono fun e W' h => ?_
  obtain ⟨r, hs, v, bs, J, hJ, rfl, rfl, hr, _, hbI, _⟩ := h
  have hb : Below W.heap.size W W' := ⟨hbI.os, hbI.tape, hbI.output, hbI.size, fun k hk => hbI.block k hk rfl⟩
  have hv := hr.bool_inv
  subst hv
  obtain ⟨s1, s2, s3⟩ := hspec ds hlen
  refine ⟨_, rfl, ds, [], before, [], p, [], hW, ?_, ?_, ?_, hb.frame _, fun h => by cases h⟩
  · rw [List.append_nil, s1, hres]
    have hsz : fn.resultTypes.size = 1 := by rw [← Array.length_toList, hres]; rfl
    have : (Value.bool true).resultList fn.resultTypes.size = [.bool true] := by rw [hsz]; rfl
    rw [this]
    exact trodAll_mk1 (shut_bool htb true)
  · rw [List.append_nil, s2]
    exact params_again hl hb hread hA
  · rw [List.append_nil, s3, hvars]; rfl
end Go.Vx
set_option linter.all false
namespace Go.Vx
def idxK (ho : HO) (n size j : Nat) (i : Int) : Option Ef :=
  match ho with
  | .own _ sz m _ => pure1 (0 ≤ i ∧ i < n ∧ sz = size ∧ m = n) (.elem j i.toNat 0 size)
  | .box _ => pure1 (0 ≤ i ∧ i < n) (.ptr j (idxN i size))
  | _ => none
theorem q_idx {hp : List HO} {n size j : Nat} {k : IntKind} {i : Int} : eIdxArr hp n size [.ptr j 0, .int k i] = idxK (getH hp j) n size j i := rfl
theorem idxN_01 : idxN 0 1 = 0 := rfl
theorem idxN_02 : idxN 0 2 = 0 := rfl
theorem idxN_03 : idxN 0 3 = 0 := rfl
theorem idxN_04 : idxN 0 4 = 0 := rfl
theorem idxN_12 : idxN 1 2 = 2 := rfl
theorem idxN_22 : idxN 2 2 = 4 := rfl
theorem idxN_13 : idxN 1 3 = 3 := rfl
theorem idxN_14 : idxN 1 4 = 4 := rfl
def stoK (ho : HO) (size i off : Nat) (vals : List SV) : Option Ef :=
  match ho with
  | .box cs => some { pre := off + size ≤ lenL cs, val := .junk, upd := .set i (.box (spliceL cs off vals)) }
  | .own z sz n _ => match off with
    | 0 => some { pre := size = n * sz ∧ 0 < sz, val := .junk, upd := .set i (.own z sz n (chunk sz vals)) }
    | _ => none
  | .smap _ => none
  | .gone => none
def stoE (ho : HO) (size i k off sz : Nat) (vals : List SV) : Option Ef :=
  match ho with
  | .own z size' n get => some { pre := k < n ∧ sz = size' ∧ off + size ≤ sz, val := .junk, upd := .set i (.own z size' n fun j => if j = k then spliceL (get k) off vals else get j) }
  | _ => none
theorem q_stoP {hp : List HO} {size i off : Nat} {vals : List SV} : storeAt hp size vals (.ptr i off) = stoK (getH hp i) size i off vals := rfl
theorem q_stoB {size i off : Nat} {cs vals : List SV} : stoK (.box cs) size i off vals = some { pre := off + size ≤ lenL cs, val := .junk, upd := .set i (.box (spliceL cs off vals)) } := rfl
theorem q_stoO {z : Bool} {sz n size i : Nat} {g : Nat → List SV} {vals : List SV} : stoK (.own z sz n g) size i 0 vals = some { pre := size = n * sz ∧ 0 < sz, val := .junk, upd := .set i (.own z sz n (chunk sz vals)) } := rfl
theorem q_stoE {hp : List HO} {size i k off sz : Nat} {vals : List SV} : storeAt hp size vals (.elem i k off sz) = stoE (getH hp i) size i k off sz vals := rfl
def appN (nx size bytes : Nat) (r : Option (Nat × (Nat → List SV))) : Option Ef :=
  r.bind fun (m, gx) => eNew (.own (decide (m = 0)) size m gx) (.own (nx) 0 m size) (capOk m bytes ∧ ∀ k, k < m → lenL (gx k) = size ∧ ones (gx k))
def appO (ho : HO) (i n sz size bytes : Nat) (r : Option (Nat × (Nat → List SV))) : Option Ef :=
  match ho with
  | .own z s' _ get => r.map fun (m, gx) =>
        { pre := sz = size ∧ s' = size ∧ capOk (n + m) bytes ∧ ∀ k, k < m → lenL (gx k) = size ∧ ones (gx k), val := .own i 0 (n + m) size,
          upd := .app i (.own (z && decide (m = 0)) size (n + m) fun k => if k < n then purgeL i (get k) else purgeL i (gx (k - n))) }
  | _ => none
theorem q_appN {nx : Nat} {hp : List HO} {size bytes : Nat} {x : SV} : eAppend nx hp size bytes [.nil, x] = appN nx size bytes (readS hp x) := rfl
theorem q_appO {nx : Nat} {hp : List HO} {size bytes i n sz : Nat} {x : SV} : eAppend nx hp size bytes [.own i 0 n sz, x] = appO (getH hp i) i n sz size bytes (readS hp x) := rfl
def appC (nx size bytes : Nat) (ry r : Option (Nat × (Nat → List SV))) : Option Ef :=
  ry.bind fun (n, gy) => r.bind fun (m, gx) => eNew (.own false size (n + m) fun k => if k < n then gy k else gx (k - n)) (.own (nx) 0 (n + m) size)
        (0 < m ∧ capOk (n + m) bytes ∧ (∀ k, k < n → lenL (gy k) = size ∧ ones (gy k)) ∧ ∀ k, k < m → lenL (gx k) = size ∧ ones (gx k))
theorem q_appC {nx : Nat} {hp : List HO} {size bytes : Nat} {y x : SV} : eAppend nx hp size bytes [.cut y, x] = appC nx size bytes (readS hp y) (readS hp x) := rfl
def sliK (ho : HO) (n size j : Nat) : Option Ef :=
  match ho with
  | .own _ sz m _ => pure1 (sz = size ∧ m = n) (.own j 0 n size)
  | _ => none
theorem q_sli {hp : List HO} {n size j : Nat} : eSliceArr hp n size false false [.ptr j 0] = sliK (getH hp j) n size j := rfl
theorem q_ownC {n : Nat} {get : Nat → List SV} : ownCells 0 n get = some (True, flatC n 0 get) := rfl
theorem q_fl1 {get : Nat → List SV} : flatC 1 0 get = get 0 ++ [] := rfl
theorem q_fl2 {get : Nat → List SV} : flatC 2 0 get = get 0 ++ (get 1 ++ []) := rfl
theorem q_fl3 {get : Nat → List SV} : flatC 3 0 get = get 0 ++ (get 1 ++ (get 2 ++ [])) := rfl
theorem q_fl4 {get : Nat → List SV} : flatC 4 0 get = get 0 ++ (get 1 ++ (get 2 ++ (get 3 ++ []))) := rfl
theorem q_ch1 {cs : List SV} : chunk 1 cs 0 = takeL 1 cs := rfl
theorem q_ch11 {cs : List SV} : chunk 1 cs 1 = takeL 1 (dropL 1 cs) := rfl
theorem q_ch12 {cs : List SV} : chunk 1 cs 2 = takeL 1 (dropL 2 cs) := rfl
theorem q_ch13 {cs : List SV} : chunk 1 cs 3 = takeL 1 (dropL 3 cs) := rfl
theorem q_fo (b : Bool) : (false || b) = b := rfl
theorem q_to (b : Bool) : (true || b) = true := rfl
def headPu (s : S) (i : Nat) (keep : List Nat) (ghosts : List HO) (slots : List (Nat × SV)) (blocks : List (Nat × HO)) : S :=
  { fr := putAll (keepG keep s.fr) slots, saved := purgeLL i s.saved, hp := putHs (s.hp ++ ghosts) blocks }
theorem Loop.keepG {r : List It → S → Prop} {body : VC} {K : List It} {s : S} (keep : List Nat) (σ : Type) (slots : σ → List (Nat × SV)) (blocks : σ → List (Nat × HO)) (ghosts : List HO) (inv : σ → Prop) (μ : σ → Nat)
    (h0 : ∃ x, inv x ∧ leP s (headK s keep ghosts (slots x) (blocks x)))
    (h : ∀ x, inv x → r (.code body :: .inLoop (fun s' => ∃ y, inv y ∧ μ y < μ x ∧ leP s' (headK s keep ghosts (slots y) (blocks y))) :: K) (headK s keep ghosts (slots x) (blocks x))) : Loop r body K s leP :=
  ⟨σ, fun x => headK s keep ghosts (slots x) (blocks x), inv, μ, leP, fun _ _ h => h, h0, h⟩
open Go.RowKit in
attribute [go_sem] pubV pubL pubLL pubHs pub1 pubC pubP1 pubS pubP r_psd0 r_psd1 r_psdD0 r_psdD1 r_effD psd eNilCheck eIdxStr eEqStr eSetAdd eLenSet keyOf r_inScope r_scope VO.bad u0 u1 u2 w0 w1 calleeM ctM ctI frzV frzL frzLL frzHs frz1 frzP1 frzS frzP eIface r_end r_end1 r_nil r_op r_opg r_runOp r_op0 r_yld0 r_yld1 r_y r_rbeg r_rend r_rend1 r_rfrm r_rfrm1 r_range r_rangeK r_rangeE r_draw r_drawT r_tleaf r_tops r_tbr s_chkF s_chkT VO.isAppend chkG chkA napP napB there r_dnil r_dop r_dopg r_dplq r_dplh r_dq r_dq0 r_dcl1 r_dcl0 r_dct1 r_dct0 r_dinl r_dinl0 r_dgd r_dgq1 r_dgq0 r_dctG r_op1 r_eff r_eff0 r_call r_call0 r_inl r_g r_gq r_gc r_effg r_effg0 r_effh r_effh0 r_callg r_callg0 r_fin r_pre r_imp r_all r_ex r_fing r_preg r_exg r_inBlock r_inLoop r_frame r_frame1 r_skip r_stuck r_region r_seq r_cond r_cond1 r_block r_exit r_exit1 r_exit2 r_ret r_loop s_args0 s_args1 s_xt s_xc padL blankL callee callArgs eff ctOf getL setL S.put S.upd unopts unopt unoptsO unoptsB lazyO guardOf gbool eMov eNot eNeg eConv eExt eLenArr eLen eLenStr eEqb eEqv allEq eNil negIf eBool2 eCmp eAri ari eBit eDiv eSh eMinMax foldMin foldMax kEq pure1 cmpB VO.quiet resVals resVal tupled popRet popTo cond eNew eBox asCells lenH snocH eFieldAddr eField eLoad cellsAt getH setH dropL takeL mkAgg lenL lenS shift shiftL shiftH viewN viewL view andT junks eIdxAddr idxN_0 idxN_1 idxN_2 idxN_3 eIndex eStore spliceL ones one eSlice bounds subLo_z addLo_z subLo_one addLo_one eMake readS repL buildCells chunk purgeL purgeLL purgeH purge refs refsL wrOps wrAl wrDtr wrDops wrC junkAt putAll putHs headOf headK keepG headX chkP apartP apartB blk strip runAl AL.ho yld putPs lenN findR notRound jumpK jumpPT jcode idxK q_idx idxN_01 idxN_02 idxN_03 idxN_04 idxN_12 idxN_22 idxN_13 idxN_14 stoE q_stoP q_stoB q_stoO q_stoE appN appO q_appN q_appO appC q_appC eSlice3 sliK q_sli noOwn noOwnL q_ownC q_fl1 q_fl2 q_fl3 q_fl4 q_ch1 q_ch11 q_ch12 q_ch13 headPu q_fo q_to
def fin_all := And.intro @leS_mk (And.intro @leL_cons (And.intro @leL_nil (And.intro @le_junk (And.intro @le_int (And.intro @le_bool (And.intro @le_nil (And.intro @leLL_nil (And.intro @leLL_cons (And.intro @leH_cons (And.intro @leH_nil (And.intro @leH1_box (And.intro @leH1_own (And.intro @leH1_gone (And.intro @le_vs (And.intro @le_agg (And.intro @le_tup (And.intro @le_ptr (And.intro @le_own (And.intro @le_xp (And.intro @le_fn (And.intro @le_opt (And.intro @le_val (And.intro @le_elem (And.intro @le_nil_own (And.intro @le_nil_vs (And.intro @leH_ghost (And.intro @leL_chunk (And.intro @leXL_id (And.intro @bnd_int (And.intro @bnd_bool (And.intro @bnd_val (And.intro @bnd_nil (And.intro @bnd_junk (And.intro @bnd_vs (And.intro @bnd_xp (And.intro @bnd_agg (And.intro @bnd_tup (And.intro @bnd_ptr (And.intro @bnd_own (And.intro @bnd_elem (And.intro @bnd_fn (And.intro @bnd_iface (And.intro @bnd_opt (And.intro @bnd_row (And.intro @bnd_rcell (And.intro @bnd_imap (And.intro @bnd_smp (And.intro @le_row (And.intro @le_rcell (And.intro @le_imap (And.intro @le_smp (And.intro @leH1_smap (And.intro @bndL_nil (And.intro @bndL_cons (And.intro @lenH_cons (@lenH_nil))))))))))))))))))))))))))))))))))))))))))))))))))))))))
def t_all := And.intro @true_and (And.intro @and_true (And.intro @imp_self (And.intro @decide_eq_true_eq (And.intro @decide_eq_false_iff_not (And.intro @Bool.not_not (And.intro @false_imp_iff (And.intro @Bool.not_eq_true' (And.intro @Bool.not_eq_false' (And.intro @Bool.false_eq_true (And.intro @and_self (@not_false_eq_true)))))))))))
attribute [go_sem] Option.bind Option.map List.append_nil Nat.beq List.cons_append List.nil_append List.append_eq List.map_cons List.map_nil ite_self
end Go.Vx
set_option linter.all false
namespace Go.Proofs.Ytmgfmkbniaepcaa
open Go Go.Vx
theorem w_succ {i n : Nat} (h : i < n) (hn : n ≤ 9223372036854775807) : IntKind.i64.wrap ((i : Int) + 1) = ((i + 1 : Nat) : Int) := by
  rw [IntWalk.i64_in _ (by omega)]; simp
theorem getD_mem {α : Type} [Inhabited α] {l : List α} {i : Nat} (h : i < l.length) : l.getD i default ∈ l := by
  rw [List.getD_eq_getElem?_getD, List.getElem?_eq_getElem h]; exact List.getElem_mem h
theorem mem_getD {α : Type} [Inhabited α] {l : List α} {x : α} (h : x ∈ l) : ∃ i, i < l.length ∧ l.getD i default = x := by
  obtain ⟨j, hj, rfl⟩ := List.getElem_of_mem h
  exact ⟨j, hj, by rw [List.getD_eq_getElem?_getD, List.getElem?_eq_getElem hj]; rfl⟩
theorem take_all_succ {α : Type} [Inhabited α] {l : List α} {f : α → Bool} {i : Nat} (h : i < l.length) : (l.take (i + 1)).all f = ((l.take i).all f && f (l.getD i default)) := by
  rw [List.take_add_one, List.all_append, List.getD_eq_getElem?_getD, List.getElem?_eq_getElem h]
  simp
theorem take_any_succ {α : Type} [Inhabited α] {l : List α} {f : α → Bool} {i : Nat} (h : i < l.length) : (l.take (i + 1)).any f = ((l.take i).any f || f (l.getD i default)) := by
  rw [List.take_add_one, List.any_append, List.getD_eq_getElem?_getD, List.getElem?_eq_getElem h]
  simp
theorem take_succ_eq {α : Type} [Inhabited α] {l : List α} {i : Nat} (h : i < l.length) : l.take (i + 1) = l.take i ++ [l.getD i default] := by
  rw [List.take_add_one, List.getD_eq_getElem?_getD, List.getElem?_eq_getElem h]; rfl
theorem foldl_take_succ {α β : Type} [Inhabited α] {l : List α} {f : β → α → β} {b : β} {i : Nat} (h : i < l.length) : (l.take (i + 1)).foldl f b = f ((l.take i).foldl f b) (l.getD i default) := by
  rw [take_succ_eq h, List.foldl_append]
  rfl
def leastF (f : Nat → Bool) : Nat → Nat → Nat
  | 0, k => k
  | n + 1, k => if f k then k else leastF f n (k + 1)
theorem leastF_spec {f : Nat → Bool} : ∀ (n k : Nat), k ≤ leastF f n k ∧ leastF f n k ≤ n + k ∧ (∀ j, k ≤ j → j < leastF f n k → f j = false) ∧ (leastF f n k < n + k → f (leastF f n k) = true)
  | 0, k => ⟨Nat.le_refl _, by simp [leastF], fun j h1 h2 => by simp [leastF] at h2; omega, fun h => by simp [leastF] at h⟩
  | n + 1, k => by
    unfold leastF
    split
    · rename_i h; exact ⟨Nat.le_refl _, by omega, fun j h1 h2 => by omega, fun _ => h⟩
    · rename_i h
      obtain ⟨h1, h2, h3, h4⟩ := leastF_spec (f := f) n (k + 1)
      refine ⟨by omega, by omega, fun j a b => ?_, fun hlt => h4 (by omega)⟩
      rcases Nat.lt_or_ge k j with h' | h'
      · exact h3 j h' b
      · obtain rfl : j = k := by omega
        simpa using h
theorem leastF_eq {f : Nat → Bool} {n m : Nat} (h1 : ∀ j, j < m → f j = false) (h2 : m ≤ n) (h3 : m < n → f m = true) : leastF f n 0 = m := by
  obtain ⟨a, b, c, d⟩ := leastF_spec (f := f) n 0
  rcases Nat.lt_trichotomy (leastF f n 0) m with h | h | h
  · have := h1 _ h
    rw [d (by omega)] at this; cases this
  · exact h
  · have := c m (Nat.zero_le _) h
    rw [h3 (by omega)] at this; cases this
theorem mul_le' {a b c d : Int} (h1 : a ≤ c) (h2 : b ≤ d) (ha : 0 ≤ a) (hd : 0 ≤ d) : a * b ≤ c * d :=
  Int.le_trans (Int.mul_le_mul_of_nonneg_left h2 ha) (Int.mul_le_mul_of_nonneg_right h1 hd)
def noC : CRes := .pre False (.fin .junk [])
def trueC : Ctr := { alias := false, of := fun a => match a with
  | [] => .fin (.bool true) []
  | _ => noC }
def lsP {α : Type} [Inhabited α] (size : Nat) (e : α → List SV) (n sz : Nat) (get : Nat → List SV) (l : List α) : Prop := sz = size ∧ n = l.length ∧ ∀ k, k < n → leXL (get k) (e (l.getD k default))
def enc2 (x : Int × Int) : List SV := [.int .i64 x.1, .int .i64 x.2]
theorem maxLen_eq : maxLen = 9223372036854775807 := by decide
def bare2 : List Sh := [.int .i64, .int .i64]
theorem iv_of {c : List SV} (h : okSL bare2 c) : ∃ p : Int × Int, c = enc2 p := by
  obtain ⟨_, _, rfl, ⟨n1, rfl, _⟩, e1⟩ := okSL_cons_inv h
  obtain ⟨_, _, rfl, ⟨n2, rfl, _⟩, e2⟩ := okSL_cons_inv e1
  cases okSL_nil_inv e2
  exact ⟨(n1, n2), rfl⟩
theorem slice_of {α : Type} [Inhabited α] {sh : List Sh} {e : α → List SV} (hof : ∀ c, okSL sh c → ∃ a, leXL c (e a)) {v : SV} (h : okS (.slice sh) v) : ∃ (z : Bool) (l : List α), l.length ≤ maxLen ∧ leX v (.vs false z l.length (lenSh sh) (fun k => e (l.getD k default))) := by
  obtain ⟨z, n, get, rfl, hn, hg⟩ := h
  obtain ⟨l, hl, hp⟩ := list_of (P := fun k a => leXL (get k) (e a)) fun k hk => hof _ (hg k hk)
  exact ⟨z, l, by rw [hl]; exact hn, fun h => h, rfl, hl.symm, rfl, hp⟩
theorem ivs_of {v : SV} (h : okS (.slice bare2) v) : ∃ (z : Bool) (l : List (Int × Int)), l.length ≤ maxLen ∧ leX v (.vs false z l.length 2 (fun k => enc2 (l.getD k default))) :=
  slice_of (fun c hc => let ⟨p, h⟩ := iv_of hc; ⟨p, by rw [h]; exact leXL_self _⟩) h
end Go.Proofs.Ytmgfmkbniaepcaa
set_option linter.all false
namespace Go.Proofs.Ytmgfmkbniaepcaa
open Go Go.Vx
def cdiv (x d : Nat) : Nat := if x / d * d < x then x / d + 1 else x / d
theorem cdiv_mul (x d : Nat) (hd : 0 < d) : x ≤ cdiv x d * d := by
  have h := Nat.div_add_mod x d
  have h2 := Nat.mod_lt x hd
  rw [Nat.mul_comm] at h
  unfold cdiv
  split
  · rw [Nat.add_mul, Nat.one_mul]; omega
  · omega
theorem cdiv_le {x d k : Nat} (h : x ≤ k * d) : cdiv x d ≤ k := by
  unfold cdiv
  rcases Nat.eq_zero_or_pos d with h0 | h0
  · subst h0
    simp only [Nat.mul_zero, Nat.div_zero] at *
    split <;> omega
  split
  · rename_i h1
    rw [Nat.lt_iff_add_one_le] at *
    refine Nat.lt_of_mul_lt_mul_right (a := d) ?_
    omega
  · exact Nat.div_le_of_le_mul (by rw [Nat.mul_comm]; exact h)
theorem le_cdiv (x d : Nat) : x / d ≤ cdiv x d := by
  unfold cdiv
  split <;> omega
theorem div_cdiv {x y d : Nat} (h : x ≤ y) : x / d ≤ cdiv y d := Nat.le_trans (Nat.div_le_div_right h) (le_cdiv y d)
theorem cdiv_cdiv {x d : Nat} (hd : 0 < d) : cdiv (cdiv x d) 2 = cdiv x (d * 2) := by
  refine Nat.le_antisymm (cdiv_le (cdiv_le ?_)) (cdiv_le ?_)
  · have := cdiv_mul x (d * 2) (by omega)
    rw [Nat.mul_assoc, Nat.mul_comm 2 d]; exact this
  · have h1 := cdiv_mul x d hd
    have h2 := Nat.mul_le_mul_right d (cdiv_mul (cdiv x d) 2 (by decide))
    rw [Nat.mul_comm d 2, ← Nat.mul_assoc]; omega
def gl (M : Nat) (t : Bool) : Nat → Nat → Nat → Nat → Nat × Nat
  | 0, _, _, S => (S, S + 1)
  | f + 1, A, B, S =>
    if A * A / M < 2 * M then
      if cdiv (B * B) M < 2 * M then gl M t f (A * A / M) (cdiv (B * B) M) (2 * S)
      else (S * 2 ^ (f + 1), (S + 1) * 2 ^ (f + 1))
    else
      if (t && decide (2 * M ≤ cdiv (cdiv (B * B) M) 2)) = true then (S * 2 ^ (f + 1), (S + 1) * 2 ^ (f + 1))
      else gl M t f (A * A / M / 2) (cdiv (cdiv (B * B) M) 2) (2 * S + 1)
theorem gl_any (M : Nat) (t : Bool) : ∀ (f A B S : Nat), S * 2 ^ f ≤ (gl M t f A B S).1 ∧ (gl M t f A B S).2 ≤ (S + 1) * 2 ^ f
  | 0, A, B, S => by simp [gl]
  | f + 1, A, B, S => by
    have e1 : ∀ x, x * 2 ^ (f + 1) = x * 2 * 2 ^ f := fun x => by rw [Nat.pow_succ, Nat.mul_assoc, Nat.mul_comm 2 (2 ^ f)]
    have m : ∀ x y, x ≤ y → x * 2 ^ f ≤ y * 2 ^ f := fun x y h => Nat.mul_le_mul_right _ h
    rw [gl]
    split
    · split
      · obtain ⟨h1, h2⟩ := gl_any M t f (A * A / M) (cdiv (B * B) M) (2 * S)
        rw [e1, e1]
        exact ⟨Nat.le_trans (m _ _ (by omega)) h1, Nat.le_trans h2 (m _ _ (by omega))⟩
      · exact ⟨Nat.le_refl _, Nat.le_refl _⟩
    · split
      · exact ⟨Nat.le_refl _, Nat.le_refl _⟩
      · obtain ⟨h1, h2⟩ := gl_any M t f (A * A / M / 2) (cdiv (cdiv (B * B) M) 2) (2 * S + 1)
        rw [e1, e1]
        exact ⟨Nat.le_trans (m _ _ (by omega)) h1, Nat.le_trans h2 (m _ _ (by omega))⟩
theorem sq_low {P A N M A1 : Nat} (hM : 0 < M) (h : P * A ≤ N * M) (h1 : A1 * M ≤ A * A) : P * P * A1 ≤ N * N * M := by
  refine Nat.le_of_mul_le_mul_right (c := M) ?_ hM
  have k1 : P * P * (A1 * M) ≤ P * P * (A * A) := Nat.mul_le_mul_left _ h1
  have k2 : (P * A) * (P * A) ≤ (N * M) * (N * M) := Nat.mul_le_mul h h
  have e1 : P * P * A1 * M = P * P * (A1 * M) := Nat.mul_assoc ..
  have e2 : P * P * (A * A) = (P * A) * (P * A) := by simp only [Nat.mul_assoc, Nat.mul_left_comm]
  have e3 : (N * M) * (N * M) = N * N * M * M := by simp only [Nat.mul_assoc, Nat.mul_left_comm]
  omega
theorem sq_high {P B N M B1 : Nat} (hM : 0 < M) (h : N * M ≤ P * B) (h1 : B * B ≤ B1 * M) : N * N * M ≤ P * P * B1 := by
  refine Nat.le_of_mul_le_mul_right (c := M) ?_ hM
  have k1 : P * P * (B * B) ≤ P * P * (B1 * M) := Nat.mul_le_mul_left _ h1
  have k2 : (N * M) * (N * M) ≤ (P * B) * (P * B) := Nat.mul_le_mul h h
  have e1 : P * P * B1 * M = P * P * (B1 * M) := Nat.mul_assoc ..
  have e2 : P * P * (B * B) = (P * B) * (P * B) := by simp only [Nat.mul_assoc, Nat.mul_left_comm]
  have e3 : (N * M) * (N * M) = N * N * M * M := by simp only [Nat.mul_assoc, Nat.mul_left_comm]
  omega
theorem pow_dbl (S : Nat) : 2 ^ (2 * S) = 2 ^ S * 2 ^ S := by rw [← Nat.pow_add]; congr 1; omega
theorem pow_sq (N f : Nat) : N ^ (2 ^ (f + 1)) = (N * N) ^ (2 ^ f) := by
  rw [Nat.pow_succ, Nat.mul_comm (2 ^ f) 2, Nat.pow_mul, Nat.pow_two]
theorem gl_sound (M : Nat) (t : Bool) (hM : 0 < M) : ∀ (f A B S N : Nat), 2 ^ S * A ≤ N * M → N * M ≤ 2 ^ S * B → M ≤ A → B ≤ 2 * M → 2 ^ (gl M t f A B S).1 ≤ N ^ (2 ^ f) ∧ N ^ (2 ^ f) ≤ 2 ^ (gl M t f A B S).2 := by
  have stop : ∀ (f A B S N : Nat), 2 ^ S * A ≤ N * M → N * M ≤ 2 ^ S * B → M ≤ A → B ≤ 2 * M → 2 ^ S ≤ N ∧ N ≤ 2 ^ (S + 1) := by
    intro f A B S N h1 h2 ha hb
    constructor
    · refine Nat.le_of_mul_le_mul_right (c := M) ?_ hM
      have := Nat.mul_le_mul_left (2 ^ S) ha
      omega
    · refine Nat.le_of_mul_le_mul_right (c := M) ?_ hM
      have := Nat.mul_le_mul_left (2 ^ S) hb
      rw [Nat.pow_succ, Nat.mul_assoc]
      omega
  have stop2 : ∀ (f S N : Nat), 2 ^ S ≤ N ∧ N ≤ 2 ^ (S + 1) → 2 ^ (S * 2 ^ f) ≤ N ^ (2 ^ f) ∧ N ^ (2 ^ f) ≤ 2 ^ ((S + 1) * 2 ^ f) := fun f S N h => by
    rw [Nat.pow_mul, Nat.pow_mul]
    exact ⟨Nat.pow_le_pow_left h.1 _, Nat.pow_le_pow_left h.2 _⟩
  intro f
  induction f with
  | zero =>
    intro A B S N h1 h2 ha hb
    have := stop 0 A B S N h1 h2 ha hb
    simpa [gl] using this
  | succ f ih =>
    intro A B S N h1 h2 ha hb
    have hs := stop2 (f + 1) S N (stop f A B S N h1 h2 ha hb)
    have hA : A * A / M * M ≤ A * A := Nat.div_mul_le_self _ _
    have hB : B * B ≤ cdiv (B * B) M * M := cdiv_mul _ _ hM
    have k1 := sq_low hM h1 hA
    have k2 := sq_high hM h2 hB
    have hA1 : M ≤ A * A / M := (Nat.le_div_iff_mul_le hM).2 (Nat.mul_le_mul ha ha)
    have hB1 : cdiv (B * B) M ≤ 4 * M := cdiv_le (by
      have := Nat.mul_le_mul hb hb
      have e : 4 * M * M = 2 * M * (2 * M) := by rw [Nat.mul_mul_mul_comm, Nat.mul_assoc]
      omega)
    rw [gl, pow_sq]
    rw [pow_sq] at hs
    split
    · split
      · refine ih _ _ _ _ ?_ ?_ hA1 (by omega)
        · rw [pow_dbl]; exact k1
        · rw [pow_dbl]; exact k2
      · exact hs
    · rename_i hge
      split
      · exact hs
      · have hB2 : cdiv (B * B) M ≤ cdiv (cdiv (B * B) M) 2 * 2 := cdiv_mul _ _ (by decide)
        have hA2 : A * A / M / 2 * 2 ≤ A * A / M := Nat.div_mul_le_self _ _
        have e3 : ∀ x, 2 ^ (2 * S + 1) * x = 2 ^ S * 2 ^ S * (x * 2) := fun x => by rw [Nat.pow_succ, pow_dbl, Nat.mul_assoc, Nat.mul_comm 2 x]
        refine ih _ _ _ _ ?_ ?_ (by omega) (cdiv_le (by omega))
        · rw [e3]
          exact Nat.le_trans (Nat.mul_le_mul_left _ hA2) k1
        · rw [e3]
          exact Nat.le_trans k2 (Nat.mul_le_mul_left _ hB2)
end Go.Proofs.Ytmgfmkbniaepcaa
