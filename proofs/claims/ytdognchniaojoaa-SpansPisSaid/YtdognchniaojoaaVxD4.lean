/- Regions that draw their order: the steps of a region, and that they exchange. -/
import Derived.Test.YtdognchniaojoaaVxD3
set_option linter.all false
namespace Go.Vx

def stepD (E : Env) (tab : List DT) (i : Nat) (L : Array Bool) (A : S → Prop) (s : S) : Prop :=
  match tab[i]? with
  | some (.silent _) => A s
  | some (.op v chk) => (∀ c ∈ chk, L.getD c.1 false = true → apartP (s.x c.2) (s.x (headX v.xs))) ∧ dopW E v A s
  | none => False

theorem disj_spec {d : Option Nat} {l : List Nat} (h : disj d l = true) : ∀ n, d = some n → n ∉ l := by
  rintro n rfl hm
  simp [disj, hm] at h

theorem xeq_eq {x y : X} (h : xeq x y = true) : x = y := by
  cases x <;> cases y <;> simp only [xeq, Bool.false_eq_true] at h
  rw [Nat.eq_of_beq_eq_true h]

section
variable {E : Env} {tab : List DT} {ops : Array Oper} {md : Region.Mode} {clo : Nat → Nat → Bool}

theorem stepD_mono (j : Nat) (L : Array Bool) (s : S) (A B : S → Prop) (h : ∀ s, A s → B s) (hs : stepD E tab j L A s) : stepD E tab j L B s := by
  unfold stepD at *
  split
  · rename_i d hd; rw [hd] at hs; exact h _ hs
  · rename_i v chk hd; rw [hd] at hs; exact ⟨hs.1, dopW_mono h hs.2⟩
  · rename_i hd; rw [hd] at hs; exact hs

/-- Closure: what it says of what is listed. -/
structure CloOk (md : Region.Mode) (ops : Array Oper) (clo : Nat → Nat → Bool) : Prop where
  ready : ∀ (L : Array Bool) (j i : Nat), Down md ops L → j ∈ Region.ready md ops L → clo j i = true → L.getD i false = true
  listed : ∀ (L : Array Bool) (j i : Nat), Down md ops L → L.getD j false = true → clo j i = true → L.getD i false = true

theorem ready_not {L : Array Bool} {i : Nat} (h : i ∈ Region.ready md ops L) : L.getD i false = false := by
  have h0 := (mem_ready.1 h).1
  rcases Nat.lt_or_ge i L.size with h' | h'
  · simp [h'] at h0 ⊢; exact h0
  · simp [Array.getElem?_eq_none h']

theorem getD_set_imp {L : Array Bool} {i j : Nat} (h : L.getD j false = true) : (L.setIfInBounds i true).getD j false = true := getD_set_true h

theorem fEff_hh {v u : VOp} {s : S} (hv : v.op.quiet = true) (hna : u.op.isAppend = false) (hst : u.op.isStore = true → v.op.readsHp = true → apartP (s.x (headX v.xs)) (s.x (headX u.xs))) {e : Ef} {r : Prop × SV}
    (hq : u.op.quiet = false) (he : eff s.hp (lenH s.hp) u.op (s.args u.xs) = some e) (hf : fEff v s = some r) : noApp e.upd ∧ fEff v (s.upd e.upd) = some r := by
  cases hs : u.op.isStore with
  | true =>
    obtain ⟨k, ho, h1, h2⟩ := store_upd hs he
    rw [h1]
    refine ⟨trivial, ?_⟩
    rw [fEff_set hv]
    · exact hf
    · intro hr b hb hbk
      subst hbk
      have := hst hs hr
      rw [headV_args] at h2
      simp [apartP, apartB, hb, h2] at this
  | false =>
    obtain ⟨ho, h1⟩ := new_upd hq hs hna he
    rw [h1]
    exact ⟨trivial, fEff_grow (s := s) hv rfl (grow_snoc _ _) hf⟩

theorem stepD_exch (hc : CloOk md ops clo) {i : Nat} {v : VOp} (hi : tab[i]? = some (.op v [])) (hv : v.op.quiet = true) (hcomm : ∀ (j : Nat) (t : DT), tab[j]? = some t → commB clo i v j t = true)
    (j : Nat) (L : Array Bool) (s : S) (A : S → Prop) (hd : Down md ops L) (hri : i ∈ Region.ready md ops L) (hrj : j ∈ Region.ready md ops L) (hji : j ≠ i)
    (h : stepD E tab i L (stepD E tab j (L.setIfInBounds i true) A) s) : stepD E tab j L (stepD E tab i (L.setIfInBounds j true) A) s := by
  have hstepi : ∀ (L : Array Bool) (A : S → Prop) (s : S), stepD E tab i L A s ↔ dopW E v A s := by
    intro L A s
    unfold stepD
    rw [hi]
    exact ⟨fun h => h.2, fun h => ⟨fun c hc => (by cases hc), h⟩⟩
  rw [hstepi] at h
  have hmono : ∀ {B C : S → Prop} {t : S}, (∀ s, B s → C s) → dopW E v B t → dopW E v C t := fun hbc hh => dopW_mono hbc hh
  cases ht : tab[j]? with
  | none =>
    have : dopW E v (fun _ => False) s := hmono (fun s' hs' => by unfold stepD at hs'; rw [ht] at hs'; exact hs') h
    exact (dopW_strict hv this).elim
  | some t =>
    have hcm := hcomm j t ht
    unfold commB at hcm
    have e1 : Nat.beq i j = false := by
      cases hb : Nat.beq i j with
      | false => rfl
      | true => exact absurd (Nat.eq_of_beq_eq_true hb).symm hji
    have e2 : clo j i = false := by
      cases hb : clo j i with
      | false => rfl
      | true => have := hc.ready L j i hd hrj hb; rw [ready_not hri] at this; cases this
    have e3 : clo i j = false := by
      cases hb : clo i j with
      | false => rfl
      | true => have := hc.ready L i j hd hri hb; rw [ready_not hrj] at this; cases this
    rw [e1, e2, e3] at hcm
    simp only [Bool.false_or] at hcm
    cases t with
    | silent d =>
      have hsj : ∀ (L : Array Bool) (A : S → Prop) (s : S), stepD E tab j L A s = A s := by
        intro L A s; unfold stepD; rw [ht]
      rw [hsj, hstepi]
      exact hmono (fun s' hs' => by rw [hsj] at hs'; exact hs') h
    | op u chk =>
      simp only [Bool.and_eq_true, Bool.not_eq_true', Bool.or_eq_true, List.all_eq_true] at hcm
      obtain ⟨⟨⟨⟨⟨c1, c2⟩, c3⟩, c4⟩, c5⟩, c6⟩ := hcm
      have hsj : ∀ (L : Array Bool) (A : S → Prop) (s : S), stepD E tab j L A s = ((∀ c ∈ chk, L.getD c.1 false = true → apartP (s.x c.2) (s.x (headX u.xs))) ∧ dopW E u A s) := by
        intro L A s; unfold stepD; rw [ht]
      have d1 := disj_spec c1
      have d3 := disj_spec c3
      have d2 : ∀ n, v.dst = some n → u.dst ≠ some n := fun n hn hu => disj_spec c2 n hn (by simp [hu])
      rw [hsj]
      unfold dopW at h
      rw [hv] at h
      simp only [quietW] at h
      cases hf : fEff v s with
      | none => rw [hf] at h; exact h.elim
      | some r =>
        obtain ⟨p, x⟩ := r
        rw [hf] at h
        obtain ⟨hp, h⟩ := h
        rw [hsj] at h
        obtain ⟨hchk, h⟩ := h
        have htgt : (s.put v.dst x).x (headX u.xs) = s.x (headX u.xs) := by
          refine x_put fun n hn hm => d1 n hn ?_
          cases hx : u.xs with
          | nil => rw [hx] at hm; simp [headX, X.slot] at hm
          | cons y l => rw [hx] at hm; simp only [VOp.reads, hx, slots, List.mem_append]; exact .inl (.inl hm)
        refine ⟨fun c hcm hcl => ?_, ?_⟩
        · have := hchk c hcm (getD_set_imp hcl)
          rw [htgt] at this
          rcases c5 c hcm with hh | hh
          · rw [x_put (disj_spec hh)] at this; exact this
          · have := hc.listed L c.1 i hd hcl hh
            rw [ready_not hri] at this; cases this
        · refine dopW_mono (fun s' hs' => ?_) (dopW_put hv d1 d2 d3 (fun e hq hcl he => fEff_hh hv c4 (fun hst hrd => ?_) hq he hf) hf h)
          · rw [hstepi]
            unfold dopW
            rw [hv]
            simp only [quietW]
            rw [hs'.1]
            exact ⟨hp, hs'.2⟩
          · rcases c6 with (h6 | h6) | h6
            · rw [hst] at h6; cases h6
            · rw [hrd] at h6; cases h6
            · obtain ⟨c, hcm, hcb⟩ := List.any_eq_true.1 h6.2
              simp only [Bool.and_eq_true] at hcb
              have hci := Nat.eq_of_beq_eq_true hcb.1
              have hcx := xeq_eq hcb.2
              have hlt : i < L.size := by
                obtain ⟨_, o, ho, _⟩ := mem_ready.1 hri
                rw [hd.1]; exact (Array.getElem?_eq_some_iff.1 ho).1
              have := hchk c hcm (by rw [hci]; simp [hlt])
              rw [htgt, hcx, x_put (disj_spec h6.1)] at this
              exact this

end
end Go.Vx
