/- Regions that draw their order: one order is enough, where operations exchange. -/
import Derived.Test.YtdognchniaojoaaVx1
import Derived.Test.YtdognchniaojoaaVx9
import Derived.Orders
set_option linter.all false
namespace Go.Vx
section
variable {σ : Type} {ops : Array Oper} {md : Region.Mode} (step : Nat → Array Bool → (σ → Prop) → σ → Prop) (K : σ → Prop)

/-- Every order (as the kit's wpAny, told of symbolic states). -/
def anyS (md : Region.Mode) (ops : Array Oper) : Nat → Array Bool → σ → Prop
  | 0, L, s => Region.ready md ops L = [] ∧ K s
  | n + 1, L, s => (Region.ready md ops L = [] → K s) ∧ ∀ i ∈ Region.ready md ops L, step i L (anyS md ops n (L.setIfInBounds i true)) s

/-- What is listed is closed: what an operation waits for is listed too. -/
def Down (md : Region.Mode) (ops : Array Oper) (L : Array Bool) : Prop :=
  L.size = ops.size ∧ ∀ (i : Nat) (o : Oper), ops[i]? = some o → L.getD i false = true → ∀ e ∈ o.after, Region.binds md e = true → L.getD e.on false = true

variable {step K}

theorem Down.set {L : Array Bool} (h : Down md ops L) {i : Nat} (hi : i ∈ Region.ready md ops L) : Down md ops (L.setIfInBounds i true) := by
  refine ⟨by simp [h.1], fun j o hj hl e he hb => ?_⟩
  obtain ⟨_, oi, hoi, hall⟩ := mem_ready.1 hi
  by_cases hij : i = j
  · subst hij
    rw [hoi] at hj; cases hj
    exact getD_set_true (hall e he hb)
  · rw [getD_set_ne false hij] at hl
    exact getD_set_true (h.2 j o hj hl e he hb)

theorem anyS_only {n : Nat} {L : Array Bool} {i : Nat} {s : σ} (hr : Region.ready md ops L = [i]) (h : step i L (anyS step K md ops n (L.setIfInBounds i true)) s) : anyS step K md ops (n + 1) L s := by
  refine ⟨fun h0 => (by rw [hr] at h0; cases h0), fun j hj => ?_⟩
  rw [hr] at hj
  obtain rfl : j = i := by simpa using hj
  exact h

theorem anyS_first (mono : ∀ (j : Nat) (L : Array Bool) (s : σ) (A B : σ → Prop), (∀ s, A s → B s) → step j L A s → step j L B s) {i : Nat}
    (strict : ∀ L s, ¬ step i L (fun _ => False) s)
    (exch : ∀ (j : Nat) (L : Array Bool) (s : σ) (A : σ → Prop), Down md ops L → i ∈ Region.ready md ops L → j ∈ Region.ready md ops L → j ≠ i → step i L (step j (L.setIfInBounds i true) A) s → step j L (step i (L.setIfInBounds j true) A) s) :
    ∀ (n : Nat) (L : Array Bool) (s : σ), Down md ops L → i ∈ Region.ready md ops L → step i L (anyS step K md ops n (L.setIfInBounds i true)) s → anyS step K md ops (n + 1) L s := by
  intro n
  induction n with
  | zero =>
    intro L s _ hi h
    refine ⟨fun h0 => (by rw [h0] at hi; cases hi), fun j hj => ?_⟩
    by_cases hji : j = i
    · subst hji; exact h
    · refine (strict L s (mono i L s _ _ (fun s' h' => ?_) h)).elim
      have := ready_mono hj hji
      rw [h'.1] at this
      cases this
  | succ n ih =>
    intro L s hd hi h
    refine ⟨fun h0 => (by rw [h0] at hi; cases hi), fun j hj => ?_⟩
    by_cases hji : j = i
    · subst hji; exact h
    · have h1 := mono i L s _ _ (fun s' (h' : anyS step K md ops (n + 1) (L.setIfInBounds i true) s') => h'.2 j (ready_mono hj hji)) h
      have h2 := exch j L s _ hd hi hj hji h1
      refine mono j L s _ _ (fun s' h' => ?_) h2
      rw [Array.setIfInBounds_comm _ _ (Ne.symm hji)] at h'
      exact ih _ _ (hd.set hj) (ready_mono hi (Ne.symm hji)) h'

/-- Soundness, from that of the single operations. -/
theorem anyS_sound {rd : Option Nat} {P : Program} {Q : Exit → Act → World → Prop} (R : Array Bool → σ → Act → World → Prop)
    (hop : ∀ (i : Nat) (L : Array Bool) (s : σ) (A : σ → Prop) (a : Act) (w : World), i ∈ Region.ready md ops L → step i L A s → R L s a w →
      wpOpIn (Wd rd) 0 P ops Q i (fun a' w' => ∃ s', A s' ∧ R (L.setIfInBounds i true) s' a' w') a w)
    (hQ : ∀ (L : Array Bool) (s : σ) (a : Act) (w : World), Region.ready md ops L = [] → K s → R L s a w → Q .normal a w) :
    ∀ (n : Nat) (L : Array Bool) (s : σ) (a : Act) (w : World), anyS step K md ops n L s → R L s a w → wpAnyIn (Wd rd) 0 P md ops Q n L a w := by
  intro n
  induction n with
  | zero => intro L s a w h hR; exact ⟨h.1, hQ L s a w h.1 h.2 hR⟩
  | succ n ih =>
    intro L s a w h hR
    refine ⟨fun h0 => hQ L s a w h0 (h.1 h0) hR, fun i hi => ?_⟩
    exact wpOpIn_mono (fun a' w' ⟨s', hA, hR'⟩ => ih _ s' a' w' hA hR') (hop i L s _ a w hi (h.2 i hi) hR)

end
end Go.Vx
