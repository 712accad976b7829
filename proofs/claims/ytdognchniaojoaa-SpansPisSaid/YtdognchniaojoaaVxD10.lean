/- Regions that draw their order: every step of a region is sound. -/
import Derived.Test.YtdognchniaojoaaVxD9
set_option linter.all false
namespace Go.Vx
open Go.RowKit

/-- The allocs that the program has yet to run. -/
def pendOf (sil : List (Nat × Pend)) (L : Array Bool) : List Pend :=
  match sil with
  | [] => []
  | x :: r => bif L.getD x.1 false then pendOf r L else x.2 :: pendOf r L

theorem mem_pendOf {p : Pend} {L : Array Bool} : ∀ {sil : List (Nat × Pend)}, p ∈ pendOf sil L ↔ ∃ k, (k, p) ∈ sil ∧ L.getD k false = false
  | [] => by simp [pendOf]
  | x :: r => by
    unfold pendOf
    cases hl : L.getD x.1 false with
    | true =>
      simp only [cond_true]
      rw [mem_pendOf (sil := r)]
      constructor
      · rintro ⟨k, h1, h2⟩; exact ⟨k, List.mem_cons_of_mem _ h1, h2⟩
      · rintro ⟨k, h1, h2⟩
        rcases List.mem_cons.1 h1 with rfl | h1
        · rw [hl] at h2; cases h2
        · exact ⟨k, h1, h2⟩
    | false =>
      simp only [cond_false, List.mem_cons]
      rw [mem_pendOf (sil := r)]
      constructor
      · rintro (rfl | ⟨k, h1, h2⟩)
        · exact ⟨x.1, .inl rfl, hl⟩
        · exact ⟨k, .inr h1, h2⟩
      · rintro ⟨k, rfl | h1, h2⟩
        · exact .inl rfl
        · exact .inr ⟨k, h1, h2⟩

theorem pendOf_same {L : Array Bool} {i : Nat} : ∀ {sil : List (Nat × Pend)}, (∀ p, (i, p) ∉ sil) → pendOf sil (L.setIfInBounds i true) = pendOf sil L
  | [], _ => rfl
  | x :: r, h => by
    unfold pendOf
    have hx : i ≠ x.1 := by
      intro e
      exact h x.2 (by rw [e]; exact List.mem_cons_self)
    rw [getD_set_ne false hx, pendOf_same (sil := r) fun p hp => h p (List.mem_cons_of_mem _ hp)]

theorem pendOf_perm {L : Array Bool} {i : Nat} {p : Pend} (hi : i < L.size) (hl : L.getD i false = false) : ∀ {sil : List (Nat × Pend)}, (sil.map (·.1)).Nodup → (i, p) ∈ sil → (pendOf sil L).Perm (p :: pendOf sil (L.setIfInBounds i true))
  | x :: r, hn, hm => by
    rw [List.map_cons, List.nodup_cons] at hn
    by_cases hx : x.1 = i
    · have hp : x = (i, p) := by
        rcases List.mem_cons.1 hm with rfl | hm
        · rfl
        · exact absurd (List.mem_map.2 ⟨_, hm, hx.symm⟩) hn.1
      subst hp
      have hr : ∀ q, (i, q) ∉ r := fun q hq => hn.1 (List.mem_map.2 ⟨_, hq, rfl⟩)
      unfold pendOf
      simp only [hl, cond_false]
      have : (L.setIfInBounds i true).getD i false = true := by simp [hi]
      rw [this, pendOf_same hr]
      exact List.Perm.refl _
    · have hm' : (i, p) ∈ r := by
        rcases List.mem_cons.1 hm with rfl | hm
        · exact absurd rfl hx
        · exact hm
      have ih := pendOf_perm hi hl hn.2 hm'
      unfold pendOf
      rw [getD_set_ne false (Ne.symm hx)]
      cases L.getD x.1 false with
      | true => exact ih
      | false => exact (List.Perm.cons _ ih).trans (List.Perm.swap _ _ _)

theorem pendOf_none {n : Nat} : ∀ {sil : List (Nat × Pend)}, pendOf sil (Array.replicate n false) = sil.map (·.2)
  | [] => rfl
  | x :: r => by
    unfold pendOf
    have : (Array.replicate n false).getD x.1 false = false := by
      rcases Nat.lt_or_ge x.1 n with h' | h'
      · simp [h']
      · simp [Array.getElem?_eq_none, h']
    rw [this, pendOf_none (sil := r)]
    rfl

/-- Where nothing is ready all is listed. -/
theorem all_listed {md : Region.Mode} {ops : Array Oper} (hb : ∀ (i : Nat) (o : Oper), ops[i]? = some o → ∀ e ∈ o.after, Region.binds md e = true → e.on < i) {L : Array Bool} (hd : Down md ops L) (hr : Region.ready md ops L = []) :
    ∀ (N i : Nat), i < N → i < ops.size → L.getD i false = true
  | N + 1, i, hi, hn => by
    cases hl : L.getD i false with
    | true => rfl
    | false =>
      have ho : ops[i]? = some ops[i] := Array.getElem?_eq_getElem hn
      have hL : i < L.size := by rw [hd.1]; exact hn
      have : i ∈ Region.ready md ops L := mem_ready.2 ⟨by simp [hL] at hl ⊢; exact hl, _, ho, fun e he hbi => by
        have := hb i _ ho e he hbi
        exact all_listed hb hd hr N e.on (by omega) (by omega)⟩
      rw [hr] at this; cases this

section
variable {P : Program} {E : Env} {w0 : Cx} {rd : Option Nat} {all : Array Oper} {tab : List DT} {sil : List (Nat × Pend)} {clo : Nat → Nat → Bool} {md : Region.Mode}

/-- What the table of a region has to be. -/
structure RegOk (P : Program) (all : Array Oper) (tab : List DT) (sil : List (Nat × Pend)) (clo : Nat → Nat → Bool) : Prop where
  nodup : (sil.map (·.1)).Nodup
  apart : ∀ x ∈ sil, ∀ y ∈ sil, x.1 ≠ y.1 → x.2.slot ≠ y.2.slot ∧ x.2.idx ≠ y.2.idx
  silent : ∀ (i d : Nat), tab[i]? = some (.silent d) → ∃ p o elem, (i, p) ∈ sil ∧ all[i]? = some o ∧ o.op = .alloc elem ∧ o.guard = none ∧ p.cells.is P elem ∧ o.dst = some p.slot
  op : ∀ (i : Nat) (v : VOp) (chk : List (Nat × X)), tab[i]? = some (.op v chk) → (∀ p, (i, p) ∉ sil) ∧ (∃ o, all[i]? = some o ∧ vopOf P all o = some v) ∧
    ∀ x ∈ sil, (clo i x.1 = true ∨ (x.2.slot ∉ v.reads ∧ v.op.isAppend = false)) ∧ v.dst ≠ some x.2.slot

theorem hop (hE : EnvOk P E) (hc : CloOk md all clo) (hr : RegOk P all tab sil clo) {κ : Kont} {sv : List Act} (i : Nat) (L : Array Bool) (s : S) (A : S → Prop) (a : Act) (w : World)
    (hi : i ∈ Region.ready md all L) (h : stepD E tab i L A s) (hR : Down md all L ∧ PR w0 (pendOf sil L) s a sv w) :
    wpOpIn (Wd rd) 0 P all κ i (fun a' w' => ∃ s', A s' ∧ (Down md all (L.setIfInBounds i true) ∧ PR w0 (pendOf sil (L.setIfInBounds i true)) s' a' sv w')) a w := by
  obtain ⟨hd, hR⟩ := hR
  have hd' := hd.set hi
  unfold stepD at h
  cases ht : tab[i]? with
  | none => rw [ht] at h; exact h.elim
  | some t =>
    rw [ht] at h
    cases t with
    | silent d =>
      obtain ⟨p, o, elem, hm, ho, hop, hg, hz, hdst⟩ := hr.silent i d ht
      have hsz : i < L.size := by rw [hd.1]; exact (Array.getElem?_eq_some_iff.1 ho).1
      have hR' := pr_perm (pendOf_perm hsz (ready_not hi) hr.nodup hm) hR
      have hap : ∀ q ∈ pendOf sil (L.setIfInBounds i true), q.slot ≠ p.slot ∧ q.idx ≠ p.idx := by
        intro q hq
        obtain ⟨k, hk, hkl⟩ := mem_pendOf.1 hq
        refine hr.apart (k, q) hk (i, p) hm ?_
        rintro (rfl : k = i)
        simp [hsz] at hkl
      exact alloc_step ho hop hg hz hdst (fun q hq => (hap q hq).2) (fun q hq => (hap q hq).1) hR' fun a' w' h' => ⟨s, h, hd', h'⟩
    | op v chk =>
      obtain ⟨hns, ⟨o, ho, hv⟩, hst⟩ := hr.op i v chk ht
      have hpend : ∀ p ∈ pendOf sil L, (p.slot ∉ v.reads ∧ v.op.isAppend = false) ∧ v.dst ≠ some p.slot := by
        intro p hp
        obtain ⟨k, hk, hkl⟩ := mem_pendOf.1 hp
        obtain ⟨h1, h2⟩ := hst (k, p) hk
        refine ⟨h1.resolve_left fun hck => ?_, h2⟩
        have := hc.ready L i k hd hi hck
        rw [hkl] at this; cases this
      refine wpOpIn_mono (fun a' w' ⟨s', h1, h2⟩ => ⟨s', h1, hd', by rw [pendOf_same hns]; exact h2⟩) (dop_sound hE ho hv (fun p hp => (hpend p hp).1.1) (fun p hp => (hpend p hp).2) (fun ha => ?_) h.2 hR)
      cases hpo : pendOf sil L with
      | nil => rfl
      | cons p r => have := (hpend p (by rw [hpo]; exact List.mem_cons_self)).1.2; rw [ha] at this; cases this

/-- A region that draws its order, from a run in one order. -/
theorem region_sound (hE : EnvOk P E) (hm : P.follows .mixedOrders = true) {cl : List Nat} (hl : cl.length = all.size) (hcl : closOk (directs .any all) cl all.size = true) (hr : RegOk P all tab sil (cloOf cl)) {free : Nat → Bool}
    (hfree : ∀ i, free i = true → (∃ d, tab[i]? = some (.silent d)) ∨ ∃ v, tab[i]? = some (.op v []) ∧ v.op.quiet = true ∧ ∀ (j : Nat) (t : DT), tab[j]? = some t → commB (cloOf cl) i v j t = true)
    {order : List Nat} (hlen : order.length = all.size) (hseq : seqB free (directs .any all) all.size order 0 = true) {K : S → Prop} {κ : Kont} {s : S} {a : Act} {sv : List Act} {w : World} {id : Nat}
    (h : seqS (stepD E tab) K order (Array.replicate all.size false) s) (hR : PR w0 (sil.map (·.2)) s a sv { w with drawn := w.drawn + 1 }) (hK : ∀ s a w, K s → Rl w0 s a sv w → κ .normal a w) (hall : ∀ x ∈ sil, x.1 < all.size) (hbel : ∀ (i : Nat) (o : Oper), all[i]? = some o → ∀ e ∈ o.after, Region.binds .any e = true → e.on < i) : (Code.region id all true).wpIn (Wd rd) 0 P κ a w := by
  have hc := clo_ok hl hcl
  refine wpIn_region_any hm ?_
  rw [← hlen]
  have hany := seq_any (free := free) (K := K) (step := stepD E tab) (md := .any) (ops := all) stepD_mono ?_ ?_ order 0 _ s hseq corr_none down_none h
  · refine anyS_sound (step := stepD E tab) (K := K) (P := P) (Q := κ) (fun L s a w => Down .any all L ∧ PR w0 (pendOf sil L) s a sv w) (fun i L s A a w hi hs hR => hop hE hc hr i L s A a w hi hs hR) ?_ _ _ s a _ (by rw [hlen] at hany ⊢; exact hany) ⟨by rw [hlen]; exact down_none, ?_⟩
    · rintro L s a w hr0 hKs ⟨hd, hPR⟩
      have : pendOf sil L = [] := by
        cases hp : pendOf sil L with
        | nil => rfl
        | cons p r =>
          obtain ⟨k, hk, hkl⟩ := mem_pendOf.1 (show p ∈ pendOf sil L by rw [hp]; exact List.mem_cons_self)
          have := all_listed hbel hd hr0 (k + 1) k (by omega) (hall _ hk)
          rw [hkl] at this; cases this
      rw [this] at hPR
      exact hK s a w hKs hPR.1
    · rw [pendOf_none]; exact hR
  · intro i L s hf hstep
    rcases hfree i hf with ⟨d, ht⟩ | ⟨v, ht, hq, _⟩
    · unfold stepD at hstep; rw [ht] at hstep; exact hstep
    · unfold stepD at hstep; rw [ht] at hstep; exact dopW_strict hq hstep.2
  · intro i hf j L s A hd hri hrj hji hs
    rcases hfree i hf with ⟨d, ht⟩ | ⟨v, ht, hq, hcm⟩
    · have hsi : ∀ (L : Array Bool) (A : S → Prop) (s : S), stepD E tab i L A s = A s := by
        intro L A s; unfold stepD; rw [ht]
      rw [hsi] at hs
      refine stepD_mono j L s _ _ (fun s' hs' => by rw [hsi]; exact hs') ?_
      unfold stepD at hs ⊢
      cases htj : tab[j]? with
      | none => rw [htj] at hs; exact hs
      | some t =>
        rw [htj] at hs
        cases t with
        | silent d => exact hs
        | op u chk => exact ⟨fun c hcm hcl => hs.1 c hcm (getD_set_true hcl), hs.2⟩
    · exact stepD_exch hc ht hq hcm j L s A hd hri hrj hji hs


/-- The count of draws is no part of what is told of a world. -/
theorem rl_drawn {s : S} {a : Act} {sv : List Act} {w : World} (h : Rl w0 s a sv w) (n : Nat) : Rl w0 s a sv { w with drawn := n } := by
  obtain ⟨bs, hf, hsv, hH, hb, hoth⟩ := h
  have hk : Keeps w bs { w with drawn := n } bs := fun b hf o ho => ⟨ho, hf⟩
  have hst : Stays none bs bs := fun _ _ _ h _ => h
  exact ⟨bs, hf.keep hk hst noRefL_none, hsv.keep hk hst, ⟨hH.len, fun i => (hH.ent i).keep hk hst rfl (fun _ _ _ _ => rfl), hH.inj, hH.lo⟩, ⟨hb.os, hb.tape, hb.output, hb.size, hb.block⟩, hoth.keep hk⟩

end
end Go.Vx
