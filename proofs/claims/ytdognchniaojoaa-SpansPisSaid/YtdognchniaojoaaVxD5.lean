/- Regions that draw their order: the check of a canonical order, by masks. -/
import Derived.Test.YtdognchniaojoaaVxD4
set_option linter.all false
namespace Go.Vx

section
variable {md : Region.Mode} {ops : Array Oper}

theorem testBit_pow {i k : Nat} : (2 ^ i).testBit k = decide (i = k) := Nat.testBit_two_pow

theorem maskL_spec {i : Nat} : ∀ {l : List Edge}, (maskL md l).testBit i = true ↔ ∃ e ∈ l, Region.binds md e = true ∧ e.on = i
  | [] => by simp [maskL]
  | e :: l => by
    unfold maskL
    cases hb : Region.binds md e with
    | false => simp [maskL_spec (l := l), hb]
    | true => simp [maskL_spec (l := l), hb, Nat.testBit_or, testBit_pow]

theorem directs_at {i : Nat} {o : Oper} (h : ops[i]? = some o) : (directs md ops).getD i 0 = maskL md o.after.toList := by
  simp [directs, h]

theorem orBelow_spec {cl : List Nat} {m i : Nat} : ∀ {j : Nat}, (orBelow cl m j).testBit i = true → ∃ k, k < j ∧ m.testBit k = true ∧ (cl.getD k 0).testBit i = true
  | 0, h => by simp [orBelow] at h
  | j + 1, h => by
    unfold orBelow at h
    cases hb : m.testBit j with
    | false =>
      rw [hb] at h
      obtain ⟨k, h1, h2⟩ := orBelow_spec (j := j) h
      exact ⟨k, by omega, h2⟩
    | true =>
      rw [hb] at h
      simp only [cond_true, Nat.testBit_or, Bool.or_eq_true] at h
      rcases h with h | h
      · exact ⟨j, by omega, hb, h⟩
      · obtain ⟨k, h1, h2⟩ := orBelow_spec (j := j) h
        exact ⟨k, by omega, h2⟩

theorem closOk_at {dm cl : List Nat} : ∀ {n : Nat}, closOk dm cl n = true → ∀ j, j < n → cl.getD j 0 = dm.getD j 0 ||| orBelow cl (dm.getD j 0) j
  | n + 1, h, j, hj => by
    simp only [closOk, Bool.and_eq_true] at h
    rcases Nat.lt_or_ge j n with h' | h'
    · exact closOk_at h.2 j h'
    · obtain rfl : j = n := by omega
      exact Nat.eq_of_beq_eq_true h.1

theorem clo_ok {cl : List Nat} (hl : cl.length = ops.size) (h : closOk (directs md ops) cl ops.size = true) : CloOk md ops (cloOf cl) := by
  have small : ∀ (j i : Nat), cloOf cl j i = true → j < ops.size := by
    intro j i hc
    rcases Nat.lt_or_ge j ops.size with h' | h'
    · exact h'
    · simp [cloOf, List.getD_eq_getElem?_getD, List.getElem?_eq_none (show cl.length ≤ j by omega)] at hc
  have main : ∀ (L : Array Bool), Down md ops L → ∀ (N j i : Nat), j < N → (∀ (o : Oper), ops[j]? = some o → ∀ e ∈ o.after, Region.binds md e = true → L.getD e.on false = true) → cloOf cl j i = true → L.getD i false = true := by
    intro L hd N
    induction N with
    | zero => intro j i hj; omega
    | succ N ih =>
      intro j i hj hs hc
      have hjn := small j i hc
      have ho : ops[j]? = some ops[j] := Array.getElem?_eq_getElem hjn
      unfold cloOf at hc
      rw [closOk_at h j hjn, Nat.testBit_or, Bool.or_eq_true] at hc
      have hdir : ∀ k, ((directs md ops).getD j 0).testBit k = true → L.getD k false = true := by
        intro k hk
        rw [directs_at ho] at hk
        obtain ⟨e, he, hb, rfl⟩ := maskL_spec.1 hk
        exact hs _ ho e (by simpa using he) hb
      rcases hc with hc | hc
      · exact hdir i hc
      · obtain ⟨k, h1, h2, h3⟩ := orBelow_spec hc
        exact ih k i (by omega) (fun o hok e he hb => hd.2 k o hok (hdir k h2) e he hb) h3
  refine ⟨fun L j i hd hr hc => ?_, fun L j i hd hl hc => ?_⟩
  · obtain ⟨_, o, ho, hall⟩ := mem_ready.1 hr
    exact main L hd (j + 1) j i (by omega) (fun o' ho' e he hb => by rw [ho] at ho'; cases ho'; exact hall e he hb) hc
  · exact main L hd (j + 1) j i (by omega) (fun o ho e he hb => hd.2 j o ho hl e he hb) hc

/-- A mask tells what is listed. -/
def Corr (ops : Array Oper) (L : Array Bool) (m : Nat) : Prop := L.size = ops.size ∧ ∀ i, L.getD i false = m.testBit i

theorem and_eq_left {a m : Nat} : (a &&& m) = a ↔ ∀ k, a.testBit k = true → m.testBit k = true := by
  constructor
  · intro h k hk
    have : (a &&& m).testBit k = true := by rw [h]; exact hk
    rw [Nat.testBit_and, Bool.and_eq_true] at this
    exact this.2
  · intro h
    apply Nat.eq_of_testBit_eq
    intro k
    rw [Nat.testBit_and]
    cases hk : a.testBit k with
    | false => rfl
    | true => rw [h k hk]; rfl

theorem ready_iff {L : Array Bool} {m i : Nat} (hc : Corr ops L m) : i ∈ Region.ready md ops L ↔ i < ops.size ∧ readyB (directs md ops) m i = true := by
  rw [mem_ready]
  constructor
  · rintro ⟨h0, o, ho, hall⟩
    have hi : i < ops.size := (Array.getElem?_eq_some_iff.1 ho).1
    refine ⟨hi, ?_⟩
    simp only [readyB, Bool.and_eq_true, Bool.not_eq_true']
    have hL : i < L.size := by rw [hc.1]; exact hi
    refine ⟨?_, ?_⟩
    · rw [← hc.2 i]; simp [hL] at h0 ⊢; exact h0
    · rw [directs_at ho]
      rw [and_eq_left.2 (fun k hk => ?_)]
      · exact Nat.beq_refl _
      · obtain ⟨e, he, hb, rfl⟩ := maskL_spec.1 hk
        rw [← hc.2]; exact hall e (by simpa using he) hb
  · rintro ⟨hi, hr⟩
    simp only [readyB, Bool.and_eq_true, Bool.not_eq_true'] at hr
    have ho : ops[i]? = some ops[i] := Array.getElem?_eq_getElem hi
    have hL : i < L.size := by rw [hc.1]; exact hi
    refine ⟨?_, _, ho, fun e he hb => ?_⟩
    · have := hr.1
      rw [← hc.2 i] at this
      simp [hL] at this ⊢; exact this
    · have := and_eq_left.1 (Nat.eq_of_beq_eq_true hr.2)
      rw [hc.2]
      refine this e.on ?_
      rw [directs_at ho]
      exact maskL_spec.2 ⟨e, by simpa using he, hb, rfl⟩

theorem corr_set {L : Array Bool} {m i : Nat} (hc : Corr ops L m) (hi : i < ops.size) : Corr ops (L.setIfInBounds i true) (m ||| 2 ^ i) := by
  refine ⟨by simp [hc.1], fun k => ?_⟩
  rw [Nat.testBit_or, testBit_pow]
  by_cases h : i = k
  · subst h
    simp [hc.1, hi]
  · rw [getD_set_ne false h, hc.2]; simp [h]

theorem noneReady_at {dm : List Nat} {m : Nat} : ∀ {n : Nat}, noneReady dm m n = true → ∀ k, k < n → readyB dm m k = false
  | n + 1, h, k, hk => by
    simp only [noneReady, Bool.and_eq_true, Bool.not_eq_true'] at h
    rcases Nat.lt_or_ge k n with h' | h'
    · exact noneReady_at h.2 k h'
    · obtain rfl : k = n := by omega
      exact h.1

theorem onlyReady_at {dm : List Nat} {m i : Nat} : ∀ {n : Nat}, onlyReady dm m i n = true → ∀ k, k < n → readyB dm m k = true → k = i
  | n + 1, h, k, hk, hr => by
    simp only [onlyReady, Bool.and_eq_true, Bool.or_eq_true, Bool.not_eq_true'] at h
    rcases Nat.lt_or_ge k n with h' | h'
    · exact onlyReady_at h.2 k h' hr
    · obtain rfl : k = n := by omega
      rcases h.1 with h1 | h1
      · exact Nat.eq_of_beq_eq_true h1
      · rw [hr] at h1; cases h1

/-- The run in one order. -/
def seqS {σ : Type} (step : Nat → Array Bool → (σ → Prop) → σ → Prop) (K : σ → Prop) : List Nat → Array Bool → σ → Prop
  | [], _, s => K s
  | i :: l, L, s => step i L (seqS step K l (L.setIfInBounds i true)) s

theorem seq_any {σ : Type} {step : Nat → Array Bool → (σ → Prop) → σ → Prop} {K : σ → Prop} {free : Nat → Bool}
    (mono : ∀ (j : Nat) (L : Array Bool) (s : σ) (A B : σ → Prop), (∀ s, A s → B s) → step j L A s → step j L B s)
    (strict : ∀ i L s, free i = true → ¬ step i L (fun _ => False) s)
    (exch : ∀ (i : Nat), free i = true → ∀ (j : Nat) (L : Array Bool) (s : σ) (A : σ → Prop), Down md ops L → i ∈ Region.ready md ops L → j ∈ Region.ready md ops L → j ≠ i → step i L (step j (L.setIfInBounds i true) A) s → step j L (step i (L.setIfInBounds j true) A) s) :
    ∀ (l : List Nat) (m : Nat) (L : Array Bool) (s : σ), seqB free (directs md ops) ops.size l m = true → Corr ops L m → Down md ops L → seqS step K l L s → anyS step K md ops l.length L s
  | [], m, L, s, hb, hc, hd, h => by
    refine ⟨?_, h⟩
    cases hr : Region.ready md ops L with
    | nil => rfl
    | cons x r =>
      have hx : x ∈ Region.ready md ops L := by rw [hr]; exact List.mem_cons_self
      have := (ready_iff hc).1 hx
      rw [noneReady_at hb x this.1] at this
      exact absurd this.2 (by simp)
  | i :: l, m, L, s, hb, hc, hd, h => by
    simp only [seqB, Bool.and_eq_true, Bool.or_eq_true] at hb
    obtain ⟨⟨⟨h1, h2⟩, h3⟩, h4⟩ := hb
    have hin : i < ops.size := by have := Nat.le_of_ble_eq_true h1; omega
    have hri : i ∈ Region.ready md ops L := (ready_iff hc).2 ⟨hin, h2⟩
    have hrest := mono i L s _ _ (fun s' hs' => seq_any mono strict exch l _ _ s' h4 (corr_set hc hin) (hd.set hri) hs') h
    rcases h3 with h3 | h3
    · exact anyS_first mono (fun L s => strict i L s h3) (exch i h3) _ L s hd hri hrest
    · refine ⟨fun h0 => (by rw [h0] at hri; cases hri), fun j hj => ?_⟩
      obtain ⟨hjn, hrj⟩ := (ready_iff hc).1 hj
      obtain rfl := onlyReady_at h3 j hjn hrj
      exact hrest

theorem down_none : Down md ops (Array.replicate ops.size false) := by
  refine ⟨by simp, fun i o _ h => ?_⟩
  exfalso
  rcases Nat.lt_or_ge i ops.size with h' | h'
  · simp [h'] at h
  · simp [Array.getElem?_eq_none, h'] at h

theorem corr_none : Corr ops (Array.replicate ops.size false) 0 := by
  refine ⟨by simp, fun i => ?_⟩
  rcases Nat.lt_or_ge i ops.size with h' | h'
  · simp [h']
  · simp [Array.getElem?_eq_none, h']

end
end Go.Vx
