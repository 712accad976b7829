/- Regions that draw their order: the start, where the allocs are told. -/
import Derived.Test.YtojaibhjfeojjaaMgX13b
import Derived.ProofKit
import Derived.Deep.Slices
import Derived.IntWalk
import Derived.Test.YtojaibhjfeojjaaProg
import Derived.Lib.BitFns
/- Regions that draw their order: the start, where the allocs are told. -/
set_option linter.all false
namespace Go.Vx
open Go.RowKit
section
variable {P : Program} {E : Env} {w : World} {w0 : Cx} {rd : Option Nat} {Pd Pd' : List Pend} {A : S → Prop} {s : S} {bs : List BK} {B : Bd} {hp hp' : List HO}

theorem keeps_gone : Keeps w bs w (bs ++ [.gone]) := by
  intro b hf o ho
  refine ⟨ho, fun i b' c m h => ?_⟩
  rw [List.getElem?_append] at h
  split at h
  · exact hf i b' c m h
  · rw [List.getElem?_singleton] at h; split at h <;> cases h

theorem gone_hp (hH : Hp w bs B hp) : Hp w (bs ++ [.gone]) B (snocH hp .gone) := by
  have hst : ∀ e, Stays e bs (bs ++ [.gone]) := fun e => push_stays _ _
  have hget : ∀ (i b c m : Nat), (bs ++ [BK.gone])[i]? = some (.blk b c m) → bs[i]? = some (.blk b c m) := by
    intro i b c m h
    rw [List.getElem?_append] at h
    split at h
    · exact h
    · rw [List.getElem?_singleton] at h; split at h <;> cases h
  refine ⟨by simp [hH.len, lenH_snoc], fun i => ?_, fun i j b c m c' m' h1 h2 => hH.inj i j b c m c' m' (hget _ _ _ _ h1) (hget _ _ _ _ h2), fun i b c m h1 => hH.lo i b c m (hget _ _ _ _ h1)⟩
  rcases Nat.lt_trichotomy i (lenH hp) with hi | hi | hi
  · rw [getH_snoc_lt _ _ _ hi]
    exact (hH.ent i).keep keeps_gone (hst _) (by rw [List.getElem?_append_left (by rw [hH.len]; exact hi)]) (fun _ _ _ _ => rfl)
  · subst hi; rw [getH_snoc_eq]; exact .inl (last_get hH)
  · rw [getH_ge _ _ (by rw [lenH_snoc]; omega)]
    right
    rw [List.getElem?_eq_none]; simp [hH.len]; omega

theorem RepL.junkAt : ∀ {l : List SV} {vs : List Value} (_ : RepL w bs B l vs) (n : Nat), RepL w bs B (setL l n .junk) vs
  | _, _, .nil, n => by cases n <;> exact .nil
  | _, _, .cons _ _ _ _ _ h', 0 => .cons _ _ _ _ (.x _ _ (.junk _)) h'
  | _, _, .cons _ _ _ _ h h', n + 1 => .cons _ _ _ _ h (RepL.junkAt h' n)

theorem setH_snoc_eq : ∀ (l : List HO) (x y : HO), setH (snocH l x) (lenH l) y = snocH l y
  | [], _, _ => rfl
  | a :: l, x, y => congrArg (a :: ·) (setH_snoc_eq l x y)

/-- One more alloc is told ahead. -/
theorem pend_new {a : Act} {sv : List Act} (hR : PR w0 Pd s a sv w) {d : Nat} {z : AL} (hd : ∀ q ∈ Pd, q.slot ≠ d) :
    PR w0 (⟨lenH s.hp, d, z⟩ :: Pd) ((s.upd (.new z.ho)).put (some d) (.ptr (lenH s.hp) 0)) a sv w := by
  obtain ⟨⟨bs, hf, hsv, hH, hb, hoth⟩, hPd⟩ := hR
  have hlt := pend_lt hPd
  refine ⟨⟨bs ++ [.gone], ?_, ?_, ?_, hb, hoth.keep keeps_gone⟩, fun p hp => ?_⟩
  · have e : (er (⟨lenH s.hp, d, z⟩ :: Pd) ((s.upd (.new z.ho)).put (some d) (.ptr (lenH s.hp) 0))).fr = setL (er Pd s).fr d .junk := by
      show setL (junkSlots (setL s.fr d (.ptr (lenH s.hp) 0)) Pd) d .junk = setL (junkSlots s.fr Pd) d .junk
      rw [junkSlots_set hd, setL_setL]
    rw [e]
    exact (hf.junkAt d).keep keeps_gone (push_stays _ none) noRefL_none
  · exact RepLL.keep keeps_gone (push_stays _ none) hsv
  · have e : (er (⟨lenH s.hp, d, z⟩ :: Pd) ((s.upd (.new z.ho)).put (some d) (.ptr (lenH s.hp) 0))).hp = snocH (er Pd s).hp .gone := by
      show setH (goneIdx (snocH s.hp z.ho) Pd) (lenH s.hp) .gone = snocH (goneIdx s.hp Pd) .gone
      rw [goneIdx_snoc hlt]
      have := setH_snoc_eq (goneIdx s.hp Pd) z.ho .gone
      rw [lenH_gone] at this
      exact this
    rw [e]
    exact gone_hp hH
  · rcases List.mem_cons.1 hp with rfl | hp
    · exact ⟨getH_snoc_eq _ _, setL_setL _ _ _ _⟩
    · refine ⟨?_, ?_⟩
      · show getH (snocH s.hp z.ho) p.idx = _
        rw [getH_snoc_lt _ _ _ (hlt p hp)]; exact (hPd p hp).1
      · show setL (setL s.fr d _) p.slot _ = setL s.fr d _
        rw [setL_comm _ _ _ _ _ (fun e => hd p hp e.symm), (hPd p hp).2]

def pends : Nat → List (Nat × AL) → List Pend → List Pend
  | _, [], Pd => Pd
  | n, (d, z) :: l, Pd => pends (n + 1) l (⟨n, d, z⟩ :: Pd)

def distinct : List (Nat × AL) → List Nat → Bool
  | [], _ => true
  | (d, _) :: l, ds => !ds.contains d && distinct l (d :: ds)

theorem pend_all {a : Act} {sv : List Act} : ∀ (al : List (Nat × AL)) (Pd : List Pend) (s : S), distinct al (Pd.map (·.slot)) = true → PR w0 Pd s a sv w → PR w0 (pends (lenH s.hp) al Pd) (runAl s al) a sv w
  | [], _, _, _, h => h
  | (d, z) :: l, Pd, s, hdis, h => by
    simp only [distinct, Bool.and_eq_true, Bool.not_eq_true'] at hdis
    have hd : ∀ q ∈ Pd, q.slot ≠ d := by
      intro q hq he
      have : (Pd.map (·.slot)).contains d = true := by
        rw [List.contains_iff_mem, List.mem_map]; exact ⟨q, hq, he⟩
      rw [hdis.1] at this; cases this
    have := pend_all l (⟨lenH s.hp, d, z⟩ :: Pd) _ (by simpa using hdis.2) (pend_new h (z := z) hd)
    have hl : lenH ((s.upd (.new z.ho)).put (some d) (.ptr (lenH s.hp) 0)).hp = lenH s.hp + 1 := lenH_snoc _ _
    rw [hl] at this
    exact this

theorem pr_nil {a : Act} {sv : List Act} (h : Rl w0 s a sv w) : PR w0 [] s a sv w := ⟨h, fun _ hp => by cases hp⟩

theorem er_swap (p q : Pend) (l : List Pend) : er (p :: q :: l) s = er (q :: p :: l) s := by
  have h1 : ∀ (fr : List SV), setL (setL fr q.slot .junk) p.slot .junk = setL (setL fr p.slot .junk) q.slot .junk := fun fr => by
    by_cases h : q.slot = p.slot
    · rw [h]
    · exact setL_comm _ _ _ _ _ h
  have h2 : ∀ (hp : List HO), setH (setH hp q.idx .gone) p.idx .gone = setH (setH hp p.idx .gone) q.idx .gone := fun hp => by
    by_cases h : q.idx = p.idx
    · rw [h]
    · exact setH_comm _ _ _ _ _ h
  simp only [er, junkSlots, goneIdx, h1, h2]

theorem er_cons (p : Pend) {l l' : List Pend} (h : er l s = er l' s) : er (p :: l) s = er (p :: l') s := by
  simp only [er, S.mk.injEq, true_and] at h
  simp only [er, junkSlots, goneIdx, h.1, h.2]

theorem er_perm (h : Pd.Perm Pd') : er Pd s = er Pd' s := by
  induction h with
  | nil => rfl
  | cons p _ ih => exact er_cons p ih
  | swap p q l => exact er_swap q p l
  | trans _ _ ih1 ih2 => exact ih1.trans ih2

theorem pr_perm {a : Act} {sv : List Act} (h : Pd.Perm Pd') (hR : PR w0 Pd s a sv w) : PR w0 Pd' s a sv w :=
  ⟨by rw [← er_perm h]; exact hR.1, fun p hp => hR.2 p (h.mem_iff.2 hp)⟩

end
end Go.Vx

/- Regions that draw their order: every step of a region is sound. -/
/- Regions that draw their order: every step of a region is sound. -/
set_option linter.all false
namespace Go.Vx
open Go.RowKit

/-- The allocs that the program has yet to run. -/
def pendOf (sil : List (Nat × Pend)) (L : Array Bool) : List Pend :=
  match sil with
  | [] => []
  | x :: r => bif L.getD x.1 false then pendOf r L else x.2 :: pendOf r L

theorem mem_pendOf {p : Pend} {L : Array Bool} : ∀ {sil : List (Nat × Pend)}, p ∈ pendOf sil L ↔ ∃ k, (k, p) ∈ sil ∧ L.getD k false = false
  | [] => by simp [pendOf]
  | x :: r => by
    unfold pendOf
    cases hl : L.getD x.1 false with
    | true =>
      simp only [cond_true]
      rw [mem_pendOf (sil := r)]
      constructor
      · rintro ⟨k, h1, h2⟩; exact ⟨k, List.mem_cons_of_mem _ h1, h2⟩
      · rintro ⟨k, h1, h2⟩
        rcases List.mem_cons.1 h1 with rfl | h1
        · rw [hl] at h2; cases h2
        · exact ⟨k, h1, h2⟩
    | false =>
      simp only [cond_false, List.mem_cons]
      rw [mem_pendOf (sil := r)]
      constructor
      · rintro (rfl | ⟨k, h1, h2⟩)
        · exact ⟨x.1, .inl rfl, hl⟩
        · exact ⟨k, .inr h1, h2⟩
      · rintro ⟨k, rfl | h1, h2⟩
        · exact .inl rfl
        · exact .inr ⟨k, h1, h2⟩

theorem pendOf_same {L : Array Bool} {i : Nat} : ∀ {sil : List (Nat × Pend)}, (∀ p, (i, p) ∉ sil) → pendOf sil (L.setIfInBounds i true) = pendOf sil L
  | [], _ => rfl
  | x :: r, h => by
    unfold pendOf
    have hx : i ≠ x.1 := by
      intro e
      exact h x.2 (by rw [e]; exact List.mem_cons_self)
    rw [getD_set_ne false hx, pendOf_same (sil := r) fun p hp => h p (List.mem_cons_of_mem _ hp)]

theorem pendOf_perm {L : Array Bool} {i : Nat} {p : Pend} (hi : i < L.size) (hl : L.getD i false = false) : ∀ {sil : List (Nat × Pend)}, (sil.map (·.1)).Nodup → (i, p) ∈ sil → (pendOf sil L).Perm (p :: pendOf sil (L.setIfInBounds i true))
  | x :: r, hn, hm => by
    rw [List.map_cons, List.nodup_cons] at hn
    by_cases hx : x.1 = i
    · have hp : x = (i, p) := by
        rcases List.mem_cons.1 hm with rfl | hm
        · rfl
        · exact absurd (List.mem_map.2 ⟨_, hm, hx.symm⟩) hn.1
      subst hp
      have hr : ∀ q, (i, q) ∉ r := fun q hq => hn.1 (List.mem_map.2 ⟨_, hq, rfl⟩)
      unfold pendOf
      simp only [hl, cond_false]
      have : (L.setIfInBounds i true).getD i false = true := by simp [hi]
      rw [this, pendOf_same hr]
      exact List.Perm.refl _
    · have hm' : (i, p) ∈ r := by
        rcases List.mem_cons.1 hm with rfl | hm
        · exact absurd rfl hx
        · exact hm
      have ih := pendOf_perm hi hl hn.2 hm'
      unfold pendOf
      rw [getD_set_ne false (Ne.symm hx)]
      cases L.getD x.1 false with
      | true => exact ih
      | false => exact (List.Perm.cons _ ih).trans (List.Perm.swap _ _ _)

theorem pendOf_none {n : Nat} : ∀ {sil : List (Nat × Pend)}, pendOf sil (Array.replicate n false) = sil.map (·.2)
  | [] => rfl
  | x :: r => by
    unfold pendOf
    have : (Array.replicate n false).getD x.1 false = false := by
      rcases Nat.lt_or_ge x.1 n with h' | h'
      · simp [h']
      · simp [Array.getElem?_eq_none, h']
    rw [this, pendOf_none (sil := r)]
    rfl

/-- Where nothing is ready all is listed. -/
theorem all_listed {md : Region.Mode} {ops : Array Oper} (hb : ∀ (i : Nat) (o : Oper), ops[i]? = some o → ∀ e ∈ o.after, Region.binds md e = true → e.on < i) {L : Array Bool} (hd : Down md ops L) (hr : Region.ready md ops L = []) :
    ∀ (N i : Nat), i < N → i < ops.size → L.getD i false = true
  | N + 1, i, hi, hn => by
    cases hl : L.getD i false with
    | true => rfl
    | false =>
      have ho : ops[i]? = some ops[i] := Array.getElem?_eq_getElem hn
      have hL : i < L.size := by rw [hd.1]; exact hn
      have : i ∈ Region.ready md ops L := mem_ready.2 ⟨by simp [hL] at hl ⊢; exact hl, _, ho, fun e he hbi => by
        have := hb i _ ho e he hbi
        exact all_listed hb hd hr N e.on (by omega) (by omega)⟩
      rw [hr] at this; cases this

section
variable {P : Program} {E : Env} {w0 : Cx} {rd : Option Nat} {all : Array Oper} {tab : List DT} {sil : List (Nat × Pend)} {clo : Nat → Nat → Bool} {md : Region.Mode}

/-- What the table of a region has to be. -/
structure RegOk (P : Program) (all : Array Oper) (tab : List DT) (sil : List (Nat × Pend)) (clo : Nat → Nat → Bool) : Prop where
  nodup : (sil.map (·.1)).Nodup
  apart : ∀ x ∈ sil, ∀ y ∈ sil, x.1 ≠ y.1 → x.2.slot ≠ y.2.slot ∧ x.2.idx ≠ y.2.idx
  silent : ∀ (i d : Nat), tab[i]? = some (.silent d) → ∃ p o elem, (i, p) ∈ sil ∧ all[i]? = some o ∧ o.op = .alloc elem ∧ o.guard = none ∧ p.cells.is P elem ∧ o.dst = some p.slot
  op : ∀ (i : Nat) (v : VOp) (chk : List (Nat × X)), tab[i]? = some (.op v chk) → (∀ p, (i, p) ∉ sil) ∧ (∃ o, all[i]? = some o ∧ vopOf P all o = some v) ∧
    ∀ x ∈ sil, (clo i x.1 = true ∨ (x.2.slot ∉ v.reads ∧ (v.op.isAppend = true → x.2.cells.clean = true))) ∧ v.dst ≠ some x.2.slot

theorem hop (hE : EnvOk P E) (hc : CloOk md all clo) (hr : RegOk P all tab sil clo) {κ : Kont} {sv : List Act} (i : Nat) (L : Array Bool) (s : S) (A : S → Prop) (a : Act) (w : World)
    (hi : i ∈ Region.ready md all L) (h : stepD E tab i L A s) (hR : Down md all L ∧ PR w0 (pendOf sil L) s a sv w) :
    wpOpIn (Wd rd) 0 P all κ i (fun a' w' => ∃ s', A s' ∧ (Down md all (L.setIfInBounds i true) ∧ PR w0 (pendOf sil (L.setIfInBounds i true)) s' a' sv w')) a w := by
  obtain ⟨hd, hR⟩ := hR
  have hd' := hd.set hi
  unfold stepD at h
  cases ht : tab[i]? with
  | none => rw [ht] at h; exact h.elim
  | some t =>
    rw [ht] at h
    cases t with
    | silent d =>
      obtain ⟨p, o, elem, hm, ho, hop, hg, hz, hdst⟩ := hr.silent i d ht
      have hsz : i < L.size := by rw [hd.1]; exact (Array.getElem?_eq_some_iff.1 ho).1
      have hR' := pr_perm (pendOf_perm hsz (ready_not hi) hr.nodup hm) hR
      have hap : ∀ q ∈ pendOf sil (L.setIfInBounds i true), q.slot ≠ p.slot ∧ q.idx ≠ p.idx := by
        intro q hq
        obtain ⟨k, hk, hkl⟩ := mem_pendOf.1 hq
        refine hr.apart (k, q) hk (i, p) hm ?_
        rintro (rfl : k = i)
        simp [hsz] at hkl
      exact alloc_step ho hop hg hz hdst (fun q hq => (hap q hq).2) (fun q hq => (hap q hq).1) hR' fun a' w' h' => ⟨s, h, hd', h'⟩
    | op v chk =>
      obtain ⟨hns, ⟨o, ho, hv⟩, hst⟩ := hr.op i v chk ht
      have hpend : ∀ p ∈ pendOf sil L, (p.slot ∉ v.reads ∧ (v.op.isAppend = true → p.cells.clean = true)) ∧ v.dst ≠ some p.slot := by
        intro p hp
        obtain ⟨k, hk, hkl⟩ := mem_pendOf.1 hp
        obtain ⟨h1, h2⟩ := hst (k, p) hk
        refine ⟨h1.resolve_left fun hck => ?_, h2⟩
        have := hc.ready L i k hd hi hck
        rw [hkl] at this; cases this
      refine wpOpIn_mono (fun a' w' ⟨s', h1, h2⟩ => ⟨s', h1, hd', by rw [pendOf_same hns]; exact h2⟩) (dop_sound hE ho hv (fun p hp => (hpend p hp).1.1) (fun p hp => (hpend p hp).2) (fun ha p hp => (hpend p hp).1.2 ha) h.2 hR)

/-- A region that draws its order, from a run in one order. -/
theorem region_sound (hE : EnvOk P E) (hm : P.follows .mixedOrders = true) {cl : List Nat} (hl : cl.length = all.size) (hcl : closOk (directs .any all) cl all.size = true) (hr : RegOk P all tab sil (cloOf cl)) {free : Nat → Bool}
    (hfree : ∀ i, free i = true → (∃ d, tab[i]? = some (.silent d)) ∨ ∃ v, tab[i]? = some (.op v []) ∧ v.op.quiet = true ∧ ∀ (j : Nat) (t : DT), tab[j]? = some t → commB (cloOf cl) i v j t = true)
    {K : S → Prop} {κ : Kont} {s : S} {a : Act} {sv : List Act} {w : World} {id : Nat}
    (h : (∀ (j : Nat) (L : Array Bool) (s : S) (A B : S → Prop), (∀ s, A s → B s) → stepD E tab j L A s → stepD E tab j L B s) → (∀ i L s, free i = true → ¬ stepD E tab i L (fun _ => False) s) →
      (∀ (i : Nat), free i = true → ∀ (j : Nat) (L : Array Bool) (s : S) (A : S → Prop), Down .any all L → i ∈ Region.ready .any all L → j ∈ Region.ready .any all L → j ≠ i → stepD E tab i L (stepD E tab j (L.setIfInBounds i true) A) s → stepD E tab j L (stepD E tab i (L.setIfInBounds j true) A) s) →
      anyS (stepD E tab) K .any all all.size (Array.replicate all.size false) s) (hR : PR w0 (sil.map (·.2)) s a sv { w with drawn := w.drawn + 1 }) (hK : ∀ s a w, K s → Rl w0 s a sv w → κ .normal a w) (hall : ∀ x ∈ sil, x.1 < all.size) (hbel : ∀ (i : Nat) (o : Oper), all[i]? = some o → ∀ e ∈ o.after, Region.binds .any e = true → e.on < i) : (Code.region id all true).wpIn (Wd rd) 0 P κ a w := by
  have hc := clo_ok hl hcl
  refine wpIn_region_any hm ?_
  have hany := h stepD_mono ?_ ?_
  · refine anyS_sound (step := stepD E tab) (K := K) (P := P) (Q := κ) (fun L s a w => Down .any all L ∧ PR w0 (pendOf sil L) s a sv w) (fun i L s A a w hi hs hR => hop hE hc hr i L s A a w hi hs hR) ?_ _ _ s a _ hany ⟨down_none, ?_⟩
    · rintro L s a w hr0 hKs ⟨hd, hPR⟩
      have : pendOf sil L = [] := by
        cases hp : pendOf sil L with
        | nil => rfl
        | cons p r =>
          obtain ⟨k, hk, hkl⟩ := mem_pendOf.1 (show p ∈ pendOf sil L by rw [hp]; exact List.mem_cons_self)
          have := all_listed hbel hd hr0 (k + 1) k (by omega) (hall _ hk)
          rw [hkl] at this; cases this
      rw [this] at hPR
      exact hK s a w hKs hPR.1
    · rw [pendOf_none]; exact hR
  · intro i L s hf hstep
    rcases hfree i hf with ⟨d, ht⟩ | ⟨v, ht, hq, _⟩
    · unfold stepD at hstep; rw [ht] at hstep; exact hstep
    · unfold stepD at hstep; rw [ht] at hstep; exact dopW_strict hq hstep.2
  · intro i hf j L s A hd hri hrj hji hs
    rcases hfree i hf with ⟨d, ht⟩ | ⟨v, ht, hq, hcm⟩
    · have hsi : ∀ (L : Array Bool) (A : S → Prop) (s : S), stepD E tab i L A s = A s := by
        intro L A s; unfold stepD; rw [ht]
      rw [hsi] at hs
      refine stepD_mono j L s _ _ (fun s' hs' => by rw [hsi]; exact hs') ?_
      unfold stepD at hs ⊢
      cases htj : tab[j]? with
      | none => rw [htj] at hs; exact hs
      | some t =>
        rw [htj] at hs
        cases t with
        | silent d => exact hs
        | op u chk => exact ⟨fun c hcm hcl => hs.1 c hcm (getD_set_true hcl), hs.2⟩
    · exact stepD_exch hc ht hq hcm j L s A hd hri hrj hji hs


/-- The count of draws is no part of what is told of a world. -/
theorem rl_drawn {s : S} {a : Act} {sv : List Act} {w : World} (h : Rl w0 s a sv w) (n : Nat) : Rl w0 s a sv { w with drawn := n } := by
  obtain ⟨bs, hf, hsv, hH, hb, hoth⟩ := h
  have hk : Keeps w bs { w with drawn := n } bs := fun b hf o ho => ⟨ho, hf⟩
  have hst : Stays none bs bs := fun _ _ _ h _ => h
  exact ⟨bs, hf.keep hk hst noRefL_none, hsv.keep hk hst, ⟨hH.len, fun i => (hH.ent i).keep hk hst rfl (fun _ _ _ _ => rfl), hH.inj, hH.lo⟩, ⟨hb.os, hb.tape, hb.output, hb.size, hb.block⟩, hoth.keep hk⟩

end
end Go.Vx

/- Regions that draw their order: what 'drawOf' has checked. -/
/- Regions that draw their order: what 'drawOf' has checked. -/
set_option linter.all false
namespace Go.Vx
open Go.RowKit

def entryOf (clo : Nat → Nat → Bool) (all : List VOp) (v : VOp) (j : Nat) : DT :=
  match silentOf v with
  | some (d, _) => .silent d
  | none => .op v (bif v.op.isStore then chkOf clo j all 0 else bif v.op.isAppend then apkOf clo j all 0 else [])

theorem tabOf_get {clo : Nat → Nat → Bool} {all : List VOp} : ∀ (l : List VOp) (j i : Nat), (tabOf clo all l j)[i]? = (l[i]?).map fun v => entryOf clo all v (j + i)
  | [], _, _ => by simp [tabOf]
  | v :: l, j, 0 => by
    simp only [tabOf, List.getElem?_cons_zero, Option.map_some, Nat.add_zero, entryOf]
    cases silentOf v <;> rfl
  | v :: l, j, i + 1 => by
    simp only [tabOf, List.getElem?_cons_succ]
    rw [tabOf_get l (j + 1) i]
    congr 1
    funext v
    rw [show j + 1 + i = j + (i + 1) by omega]

theorem mem_silOf {k d : Nat} {z : AL} : ∀ {l : List VOp} {j : Nat}, (k, d, z) ∈ silOf l j ↔ ∃ i v, l[i]? = some v ∧ k = j + i ∧ silentOf v = some (d, z)
  | [], j => by simp [silOf]
  | v :: l, j => by
    have ih := mem_silOf (k := k) (d := d) (z := z) (l := l) (j := j + 1)
    unfold silOf
    cases hs : silentOf v with
    | none =>
      simp only
      rw [ih]
      constructor
      · rintro ⟨i, u, h1, h2, h3⟩; exact ⟨i + 1, u, by simpa using h1, by omega, h3⟩
      · rintro ⟨i, u, h1, h2, h3⟩
        cases i with
        | zero => simp only [List.getElem?_cons_zero, Option.some.injEq] at h1; subst h1; rw [hs] at h3; cases h3
        | succ i => exact ⟨i, u, by simpa using h1, by omega, h3⟩
    | some r =>
      obtain ⟨d', z'⟩ := r
      simp only [List.mem_cons]
      rw [ih]
      constructor
      · rintro (h | ⟨i, u, h1, h2, h3⟩)
        · cases h; exact ⟨0, v, rfl, rfl, hs⟩
        · exact ⟨i + 1, u, by simpa using h1, by omega, h3⟩
      · rintro ⟨i, u, h1, h2, h3⟩
        cases i with
        | zero => simp only [List.getElem?_cons_zero, Option.some.injEq] at h1; subst h1; rw [hs] at h3; cases h3; left; rw [h2]; rfl
        | succ i => exact .inr ⟨i, u, by simpa using h1, by omega, h3⟩

theorem vopsOf_get {P : Program} {all : Array Oper} : ∀ {rest : List Oper} {vs : List VOp}, vopsOf P all rest = some vs → ∀ (i : Nat) (v : VOp), vs[i]? = some v → ∃ o, rest[i]? = some o ∧ vopOf P all o = some v
  | [], vs, h, i, v, hv => by simp only [vopsOf, Option.some.injEq] at h; subst h; simp at hv
  | o :: l, vs, h, i, v, hv => by
    simp only [vopsOf] at h
    obtain ⟨x, hx, h⟩ := Option.bind_eq_some_iff.1 h
    obtain ⟨y, hy, rfl⟩ := Option.map_eq_some_iff.1 h
    cases i with
    | zero => simp only [List.getElem?_cons_zero, Option.some.injEq] at hv; subst hv; exact ⟨o, rfl, hx⟩
    | succ i => exact vopsOf_get hy i v (by simpa using hv)

theorem commAll_at {clo : Nat → Nat → Bool} {i : Nat} {v : VOp} : ∀ {l : List DT} {j : Nat}, commAll clo i v l j = true → ∀ (k : Nat) (t : DT), l[k]? = some t → commB clo i v (j + k) t = true
  | t :: l, j, h, 0, u, hu => by
    simp only [commAll, Bool.and_eq_true] at h
    simp only [List.getElem?_cons_zero, Option.some.injEq] at hu; subst hu; exact h.1
  | t :: l, j, h, k + 1, u, hu => by
    simp only [commAll, Bool.and_eq_true] at h
    have := commAll_at h.2 k u (by simpa using hu)
    rw [show j + 1 + k = j + (k + 1) by omega] at this
    exact this

end Go.Vx

/- Regions that draw their order: what 'drawOf' gives. -/
/- Regions that draw their order: what 'drawOf' gives. -/
set_option linter.all false
namespace Go.Vx
open Go.RowKit

theorem lenE_eq : ∀ l : List SV, lenE l = lenL l
  | [] => rfl
  | _ :: l => congrArg (· + 1) (lenE_eq l)

/-- What a silent alloc is as an operation. -/
def AL.op : AL → VO
  | .box z => .alloc z
  | .arr n size z => .allocArr n size z
def AL.ok : AL → Prop
  | .box _ => True
  | .arr n size z => lenL z = n * size

theorem silentOf_inv {v : VOp} {d : Nat} {z : AL} (h : silentOf v = some (d, z)) : v.dst = some d ∧ v.g = none ∧ v.op = z.op ∧ z.ok := by
  unfold silentOf at h
  split at h
  · cases h; exact ⟨rfl, rfl, rfl, trivial⟩
  · rename_i n size z' _
    cases hb : Nat.beq (lenE z') (n * size) with
    | true => rw [hb] at h; cases h; exact ⟨rfl, rfl, rfl, (lenE_eq z').symm.trans (Nat.eq_of_beq_eq_true hb)⟩
    | false => rw [hb] at h; cases h
  · cases h

theorem vop_alloc' {P : Program} {o : Oper} {z : AL} {ops : List Operand} {elem : TypeId} (ho : o.op = .alloc elem) (h : vop P o = some (AL.op z, ops)) (hk : AL.ok z) : z.is P elem := by
  obtain ⟨dst, op, type, pos, after, guard⟩ := o
  simp only at ho
  subst ho
  unfold vop at h
  simp only at h
  split at h
  · obtain ⟨_, hz, h⟩ := Option.bind_eq_some_iff.1 h
    obtain ⟨_, _, h⟩ := Option.map_eq_some_iff.1 h
    cases z <;> cases h
    exact ⟨hz, hk⟩
  · obtain ⟨_, hz, h⟩ := Option.map_eq_some_iff.1 h
    cases z <;> cases h
    exact hz

theorem allocOk_at : ∀ {os : List Oper} {vs : List VOp}, allocOk os vs = true → ∀ (i : Nat) (o : Oper) (v : VOp), os[i]? = some o → vs[i]? = some v → (silentOf v).isSome = true → ∃ e, o.op = .alloc e
  | [], _, _, i, o, v, h, _, _ => by simp at h
  | _ :: _, [], _, i, o, v, _, h, _ => by simp at h
  | o' :: os, v' :: vs, h, 0, o, v, h1, h2, h3 => by
    simp only [List.getElem?_cons_zero, Option.some.injEq] at h1 h2
    subst h1; subst h2
    simp only [allocOk, Bool.and_eq_true] at h
    have h := h.1
    cases hs : silentOf v' with
    | none => rw [hs] at h3; cases h3
    | some x =>
      rw [hs] at h
      simp only at h
      split at h
      · exact ⟨_, ‹_›⟩
      · cases h
  | o' :: os, v' :: vs, h, i + 1, o, v, h1, h2, h3 => by
    simp only [allocOk, Bool.and_eq_true] at h
    exact allocOk_at h.2 i o v (by simpa using h1) (by simpa using h2) h3

/-- The pending allocs, numbered from n on. -/
def silP : Nat → List (Nat × Nat × AL) → List (Nat × Pend)
  | _, [] => []
  | n, (j, d, z) :: l => (j, ⟨n, d, z⟩) :: silP (n + 1) l

theorem mem_silP {j : Nat} {p : Pend} : ∀ {l : List (Nat × Nat × AL)} {n : Nat}, (j, p) ∈ silP n l → n ≤ p.idx ∧ (j, p.slot, p.cells) ∈ l
  | [], _, h => by cases h
  | (j', d, z) :: l, n, h => by
    rcases List.mem_cons.1 h with h | h
    · cases h; exact ⟨Nat.le_refl _, List.mem_cons_self⟩
    · have := mem_silP h; exact ⟨by omega, List.mem_cons_of_mem _ this.2⟩

theorem silP_mem {j d : Nat} {z : AL} : ∀ {l : List (Nat × Nat × AL)} {n : Nat}, (j, d, z) ∈ l → ∃ p, (j, p) ∈ silP n l ∧ p.slot = d ∧ p.cells = z
  | [], _, h => by cases h
  | (j', d', z') :: l, n, h => by
    rcases List.mem_cons.1 h with h | h
    · cases h; exact ⟨_, List.mem_cons_self, rfl, rfl⟩
    · obtain ⟨p, h1, h2⟩ := silP_mem (n := n + 1) h
      exact ⟨p, List.mem_cons_of_mem _ h1, h2⟩

theorem silP_fst : ∀ {l : List (Nat × Nat × AL)} {n : Nat}, (silP n l).map (·.1) = l.map (·.1)
  | [], _ => rfl
  | (j, d, z) :: l, n => by simp only [silP, List.map_cons, silP_fst]

theorem silOf_ge {x : Nat × Nat × AL} {l : List VOp} {j : Nat} (h : x ∈ silOf l j) : j ≤ x.1 := by
  obtain ⟨k, d, z⟩ := x
  obtain ⟨i, v, _, h2, _⟩ := mem_silOf.1 h
  simp only; omega

theorem silOf_nodup : ∀ {l : List VOp} {j : Nat}, ((silOf l j).map (·.1)).Nodup
  | [], _ => .nil
  | v :: l, j => by
    unfold silOf
    cases silentOf v with
    | none => exact silOf_nodup
    | some r =>
      obtain ⟨d, z⟩ := r
      simp only [List.map_cons, List.nodup_cons]
      refine ⟨fun h => ?_, silOf_nodup⟩
      obtain ⟨x, hx, h⟩ := List.mem_map.1 h
      have := silOf_ge hx; omega

theorem distinctB_nodup : ∀ {l : List Nat}, distinctB l = true → l.Nodup
  | [], _ => .nil
  | d :: l, h => by
    simp only [distinctB, Bool.and_eq_true, Bool.not_eq_true'] at h
    rw [List.nodup_cons]
    refine ⟨fun hm => ?_, distinctB_nodup h.2⟩
    have : l.contains d = true := by rw [List.contains_iff_mem]; exact hm
    rw [h.1] at this; cases this

theorem silP_apart : ∀ {l : List (Nat × Nat × AL)} {n : Nat}, (l.map (·.2.1)).Nodup → ∀ x ∈ silP n l, ∀ y ∈ silP n l, x.1 ≠ y.1 → x.2.slot ≠ y.2.slot ∧ x.2.idx ≠ y.2.idx
  | [], _, _, x, hx, _, _, _ => by cases hx
  | (j, d, z) :: l, n, hn, x, hx, y, hy, hxy => by
    simp only [List.map_cons, List.nodup_cons] at hn
    have key : ∀ u ∈ silP (n + 1) l, u.2.slot ≠ d ∧ u.2.idx ≠ n := by
      rintro ⟨k, p⟩ hu
      obtain ⟨h1, h2⟩ := mem_silP hu
      refine ⟨fun e => hn.1 (List.mem_map.2 ⟨_, h2, e⟩), ?_⟩
      simp only; omega
    rcases List.mem_cons.1 hx with rfl | hx <;> rcases List.mem_cons.1 hy with rfl | hy
    · exact absurd rfl hxy
    · exact ⟨fun e => (key y hy).1 e.symm, fun e => (key y hy).2 e.symm⟩
    · exact key x hx
    · exact silP_apart hn.2 x hx y hy hxy

theorem pends_perm : ∀ {l : List (Nat × Nat × AL)} {n : Nat} {Pd : List Pend}, (pends n (l.map (·.2)) Pd).Perm ((silP n l).map (·.2) ++ Pd)
  | [], _, _ => List.Perm.refl _
  | (j, d, z) :: l, n, Pd => by
    simp only [List.map_cons, pends, silP, List.cons_append]
    exact pends_perm.trans List.perm_middle

theorem distinct_of {al : List (Nat × AL)} : ∀ {ds : List Nat}, (al.map (·.1)).Nodup → (∀ d ∈ al.map (·.1), d ∉ ds) → distinct al ds = true := by
  induction al with
  | nil => intros; rfl
  | cons x al ih =>
    obtain ⟨d, z⟩ := x
    intro ds hn hd
    simp only [List.map_cons, List.nodup_cons] at hn
    simp only [distinct, Bool.and_eq_true, Bool.not_eq_true']
    refine ⟨?_, ih hn.2 fun e he hm => ?_⟩
    · cases hc : ds.contains d with
      | false => rfl
      | true => rw [List.contains_iff_mem] at hc; exact absurd hc (hd d (by simp))
    · rcases List.mem_cons.1 hm with rfl | hm
      · exact hn.1 he
      · exact hd e (by simp only [List.map_cons, List.mem_cons]; exact .inr he) hm

theorem silOk_at {clo : Nat → Nat → Bool} {sil : List (Nat × Nat × AL)} : ∀ {l : List DT} {j : Nat}, silOk clo sil l j = true → ∀ (k : Nat) (v : VOp) (chk : List (Nat × X)), l[k]? = some (.op v chk) →
    ∀ x ∈ sil, (clo (j + k) x.1 = true ∨ (x.2.1 ∉ v.reads ∧ (v.op.isAppend = true → x.2.2.clean = true))) ∧ v.dst ≠ some x.2.1
  | [], _, _, k, v, chk, h, _, _ => by simp at h
  | .silent _ :: l, j, h, 0, v, chk, hk, _, _ => by simp at hk
  | .silent _ :: l, j, h, k + 1, v, chk, hk, x, hx => by
    have := silOk_at (l := l) (j := j + 1) h k v chk (by simpa using hk) x hx
    rwa [show j + 1 + k = j + (k + 1) by omega] at this
  | .op u c :: l, j, h, 0, v, chk, hk, x, hx => by
    simp only [List.getElem?_cons_zero, Option.some.injEq, DT.op.injEq] at hk
    obtain ⟨rfl, rfl⟩ := hk
    simp only [silOk, Bool.and_eq_true, List.all_eq_true] at h
    have := h.1 x hx
    simp only [Bool.or_eq_true, Bool.and_eq_true, Bool.not_eq_true'] at this
    refine ⟨?_, ?_⟩
    · rcases this.1 with h1 | ⟨h1, h2⟩
      · exact .inl h1
      · exact .inr ⟨fun hm => absurd ((List.contains_iff_mem (a := x.2.1)).2 hm) (by rw [h1]; simp), fun ha => by rcases h2 with h2 | h2; (rw [ha] at h2; cases h2); exact h2⟩
    · intro e
      have := this.2
      rw [e] at this
      simp at this
  | .op u c :: l, j, h, k + 1, v, chk, hk, x, hx => by
    simp only [silOk, Bool.and_eq_true] at h
    have := silOk_at (l := l) (j := j + 1) h.2 k v chk (by simpa using hk) x hx
    rwa [show j + 1 + k = j + (k + 1) by omega] at this

theorem belowOk_at : ∀ {l : List Nat} {j : Nat}, belowOk l j = true → ∀ k, l.getD k 0 < 2 ^ (j + k)
  | [], j, _, k => by simp; exact Nat.two_pow_pos _
  | m :: l, j, h, 0 => by
    simp only [belowOk, Bool.and_eq_true] at h
    have := h.1
    simp only [Nat.blt_eq] at this
    simpa using this
  | m :: l, j, h, k + 1 => by
    simp only [belowOk, Bool.and_eq_true] at h
    have := belowOk_at h.2 k
    rw [show j + 1 + k = j + (k + 1) by omega] at this
    simpa using this

theorem frees_at {clo : Nat → Nat → Bool} {tab : List DT} : ∀ (n j i : Nat), (frees clo tab n j).getD i false = true → freeB clo tab (j + i) = true
  | 0, _, _, h => by simp [frees] at h
  | n + 1, j, 0, h => by simpa [frees] using h
  | n + 1, j, i + 1, h => by
    have := frees_at (clo := clo) (tab := tab) n (j + 1) i (by simpa [frees] using h)
    rwa [show j + 1 + i = j + (i + 1) by omega] at this

theorem vopsOf_length {P : Program} {all : Array Oper} : ∀ {rest : List Oper} {vs : List VOp}, vopsOf P all rest = some vs → vs.length = rest.length
  | [], vs, h => by simp only [vopsOf, Option.some.injEq] at h; subst h; rfl
  | o :: l, vs, h => by
    simp only [vopsOf] at h
    obtain ⟨x, hx, h⟩ := Option.bind_eq_some_iff.1 h
    obtain ⟨y, hy, rfl⟩ := Option.map_eq_some_iff.1 h
    simp [vopsOf_length hy]

def OT.all : OT → List Nat
  | .nil => []
  | .op i t => i :: t.all
  | .br a b => a.all ++ b.all

/-- The run of such a region's operations, one after the other. -/
def dopsP (E : Env) (A : S → Prop) : List DOp → S → Prop
  | [], s => A s
  | ⟨v, chk⟩ :: l, s => chkG v.op.isAppend s (s.x (headX v.xs)) chk ∧ dopW E v (dopsP E A l) s

def dtrP (E : Env) (A : S → Prop) : DTr → S → Prop
  | .leaf, s => A s
  | .ops l t, s => dopsP E (dtrP E A t) l s
  | .br a b, s => dtrP E A a s ∧ dtrP E A b s

theorem chkA_at {s : S} {y : SV} : ∀ {l : List X}, chkA s y l → ∀ x ∈ l, napP (s.x x) y
  | x :: l, h, z, hz => by
    rcases List.mem_cons.1 hz with rfl | hz
    · exact h.1
    · exact chkA_at h.2 z hz

theorem chkP_at {s : S} {y : SV} : ∀ {l : List X}, chkP s y l → ∀ x ∈ l, apartP (s.x x) y
  | x :: l, h, z, hz => by
    rcases List.mem_cons.1 hz with rfl | hz
    · exact h.1
    · exact chkP_at h.2 z hz

theorem chkG_at {ap : Bool} {s : S} {y : SV} {l : List X} (h : chkG ap s y l) (x : X) (hx : x ∈ l) : chk1 ap (s.x x) y := by
  cases ap with
  | false => exact chkP_at h x hx
  | true => exact chkA_at h x hx

theorem seqS_of {E : Env} {A : S → Prop} {tab : List DT} : ∀ {order : List Nat} {L : Array Bool} {s : S}, (∀ i ∈ order, i < tab.length) → dopsP E A (dopOf tab order) s → seqS (stepD E tab) A order L s
  | [], _, _, _, h => h
  | i :: order, L, s, hi, h => by
    have hlt := hi i List.mem_cons_self
    unfold dopOf at h
    unfold seqS stepD
    cases ht : tab[i]? with
    | none => rw [List.getElem?_eq_none_iff] at ht; omega
    | some t =>
      rw [ht] at h
      cases t with
      | silent d => exact seqS_of (fun j hj => hi j (List.mem_cons_of_mem _ hj)) h
      | op v chk =>
        simp only at h ⊢
        refine ⟨fun c hc _ => chkG_at h.1 c.2 (List.mem_map.2 ⟨c, hc, rfl⟩), dopW_mono (fun s' h' => seqS_of (fun j hj => hi j (List.mem_cons_of_mem _ hj)) h') h.2⟩

theorem treeS_of {E : Env} {A : S → Prop} {tab : List DT} : ∀ {t : OT} {L : Array Bool} {s : S}, (∀ i ∈ t.all, i < tab.length) → dtrP E A (dtrOf tab t) s → treeS (stepD E tab) A t L s
  | .nil, _, _, _, h => h
  | .op i t, L, s, hi, h => by
    have hlt := hi i (by simp [OT.all])
    have hr : ∀ j ∈ t.all, j < tab.length := fun j hj => hi j (by simp [OT.all, hj])
    unfold dtrOf dtrP dopOf at h
    unfold treeS stepD
    cases ht : tab[i]? with
    | none => rw [List.getElem?_eq_none_iff] at ht; omega
    | some x =>
      rw [ht] at h
      cases x with
      | silent d => exact treeS_of hr h
      | op v chk =>
        simp only [dopsP] at h ⊢
        refine ⟨fun c hc _ => chkG_at h.1 c.2 (List.mem_map.2 ⟨c, hc, rfl⟩), dopW_mono (fun s' h' => treeS_of hr h') h.2⟩
  | .br a b, L, s, hi, h => ⟨treeS_of (fun j hj => hi j (by simp [OT.all, hj])) h.1, treeS_of (fun j hj => hi j (by simp [OT.all, hj])) h.2⟩

theorem treeB_lt {free : Nat → Bool} {dm : List Nat} {n : Nat} : ∀ {t : OT} {m : Nat} {ex : Bool}, treeB free dm n t m ex = true → ∀ i ∈ t.all, i < n
  | .op i t, m, ex, h, j, hj => by
    simp only [treeB, Bool.and_eq_true] at h
    rcases List.mem_cons.1 hj with rfl | hj
    · have := Nat.le_of_ble_eq_true h.1.1.1; omega
    · exact treeB_lt h.2 j hj
  | .br a b, m, ex, h, j, hj => by
    simp only [treeB, Bool.and_eq_true] at h
    rcases List.mem_append.1 hj with hj | hj
    · exact treeB_lt h.1.2 j hj
    · exact treeB_lt h.2 j hj

theorem seqB_lt {free : Nat → Bool} {dm : List Nat} {n : Nat} : ∀ {l : List Nat} {m : Nat}, seqB free dm n l m = true → ∀ i ∈ l, i < n
  | i :: l, m, h, j, hj => by
    simp only [seqB, Bool.and_eq_true] at h
    rcases List.mem_cons.1 hj with rfl | hj
    · have := Nat.le_of_ble_eq_true h.1.1.1; omega
    · exact seqB_lt h.2 j hj

section
variable {P : Program} {E : Env} {w0 : Cx} {rd : Option Nat}

/-- What both kinds of orders ask for. -/
theorem draw_any (hE : EnvOk P E) (hm : P.follows .mixedOrders = true) {ops : Array Oper} {vs : List VOp} (hvs : vopsOf P ops ops.toList = some vs) (c0 : allocOk ops.toList vs = true) (c1 : Nat.beq (clos (directs .any ops)).length ops.size = true) (c2 : closOk (directs .any ops) (clos (directs .any ops)) ops.size = true) (c3 : belowOk (directs .any ops) 0 = true)
    (c4 : silOk (cloOf (clos (directs .any ops))) (silOf vs 0) (tabOf (cloOf (clos (directs .any ops))) vs vs 0) 0 = true) (c5 : distinctB ((silOf vs 0).map (·.2.1)) = true) {A : S → Prop} {κ : Kont} {s : S} {a : Act} {sv : List Act} {w : World} {id : Nat}
    (h : ∀ s0, s0 = runAl s ((silOf vs 0).map (·.2)) → (∀ (j : Nat) (L : Array Bool) (s : S) (A B : S → Prop), (∀ s, A s → B s) → stepD E (tabOf (cloOf (clos (directs .any ops))) vs vs 0) j L A s → stepD E (tabOf (cloOf (clos (directs .any ops))) vs vs 0) j L B s) →
      (∀ i L s, (frees (cloOf (clos (directs .any ops))) (tabOf (cloOf (clos (directs .any ops))) vs vs 0) ops.size 0).getD i false = true → ¬ stepD E (tabOf (cloOf (clos (directs .any ops))) vs vs 0) i L (fun _ => False) s) →
      (∀ (i : Nat), (frees (cloOf (clos (directs .any ops))) (tabOf (cloOf (clos (directs .any ops))) vs vs 0) ops.size 0).getD i false = true → ∀ (j : Nat) (L : Array Bool) (s : S) (A : S → Prop), Down .any ops L → i ∈ Region.ready .any ops L → j ∈ Region.ready .any ops L → j ≠ i → stepD E (tabOf (cloOf (clos (directs .any ops))) vs vs 0) i L (stepD E (tabOf (cloOf (clos (directs .any ops))) vs vs 0) j (L.setIfInBounds i true) A) s → stepD E (tabOf (cloOf (clos (directs .any ops))) vs vs 0) j L (stepD E (tabOf (cloOf (clos (directs .any ops))) vs vs 0) i (L.setIfInBounds j true) A) s) →
      anyS (stepD E (tabOf (cloOf (clos (directs .any ops))) vs vs 0)) A .any ops ops.size (Array.replicate ops.size false) s0) (hR : Rl w0 s a sv w) (hK : ∀ s a w, A s → Rl w0 s a sv w → κ .normal a w) : (Code.region id ops true).wpIn (Wd rd) 0 P κ a w := by
  have hlen : vs.length = ops.size := by rw [vopsOf_length hvs]; simp
  have htl : ∀ (clo : Nat → Nat → Bool) (l : List VOp) (j : Nat), (tabOf clo vs l j).length = l.length := by
    intro clo l
    induction l with
    | nil => intro j; rfl
    | cons v l ih => intro j; simp only [tabOf, List.length_cons, ih]
  have hsn : ((silOf vs 0).map (·.2.1)).Nodup := distinctB_nodup c5
  have hget : ∀ (i : Nat) (v : VOp), vs[i]? = some v → ∃ o, ops[i]? = some o ∧ vopOf P ops o = some v := by
    intro i v hv
    obtain ⟨o, h1, h2⟩ := vopsOf_get hvs i v hv
    exact ⟨o, by simpa using h1, h2⟩
  have hok : RegOk P ops (tabOf (cloOf (clos (directs .any ops))) vs vs 0) (silP (lenH s.hp) (silOf vs 0)) (cloOf (clos (directs .any ops))) := by
    refine ⟨by rw [silP_fst]; exact silOf_nodup, silP_apart hsn, fun i d ht => ?_, fun i v chk ht => ?_⟩
    · rw [tabOf_get] at ht
      obtain ⟨v, hv, he⟩ := Option.map_eq_some_iff.1 ht
      unfold entryOf at he
      cases hs : silentOf v with
      | none => rw [hs] at he; cases he
      | some x =>
        obtain ⟨d', z⟩ := x
        rw [hs] at he; cases he
        obtain ⟨o, ho, hvo⟩ := hget i v hv
        obtain ⟨e, hop⟩ := allocOk_at c0 i o v (by simpa using ho) hv (by rw [hs]; rfl)
        obtain ⟨g1, g2, g3, g4⟩ := silentOf_inv hs
        obtain ⟨xs, k1, k2, k3, k4, k5⟩ := vopOf_inv' hvo
        obtain ⟨p, hp, hp1, hp2⟩ := silP_mem (n := lenH s.hp) (mem_silOf.2 ⟨i, v, hv, by omega, hs⟩ : (i, d, z) ∈ silOf vs 0)
        refine ⟨p, o, e, hp, ho, hop, ?_, ?_, ?_⟩
        · rcases k5 with k5 | ⟨_, _, _, _, _, k5⟩
          · exact k5.1
          · rw [g2] at k5; cases k5
        · rw [g3] at k1; rw [hp2]; exact vop_alloc' hop k1 g4
        · rw [← k4, g1, hp1]
    · rw [tabOf_get] at ht
      obtain ⟨u, hu, he⟩ := Option.map_eq_some_iff.1 ht
      unfold entryOf at he
      cases hs : silentOf u with
      | some x => rw [hs] at he; cases he
      | none =>
        rw [hs] at he
        simp only [DT.op.injEq] at he
        obtain ⟨rfl, hchk⟩ := he
        refine ⟨fun p hp => ?_, hget i u hu, fun x hx => ?_⟩
        · obtain ⟨_, hm⟩ := mem_silP hp
          obtain ⟨i', v', h1, h2, h3⟩ := mem_silOf.1 hm
          have : i' = i := by omega
          subst this
          rw [hu] at h1; cases h1
          rw [hs] at h3; cases h3
        · obtain ⟨k, p⟩ := x
          have := silOk_at c4 i u chk (by rw [tabOf_get, hu]; simp [entryOf, hs, ← hchk]) (k, p.slot, p.cells) (mem_silP hx).2
          simpa using this
  refine region_sound (free := fun i => (frees (cloOf (clos (directs .any ops))) (tabOf (cloOf (clos (directs .any ops))) vs vs 0) ops.size 0).getD i false) hE hm (Nat.eq_of_beq_eq_true c1) c2 hok (fun i hi => ?_)
    (h _ rfl) ?_ hK (fun x hx => ?_) (fun i o ho e he hb => ?_)
  · have := frees_at _ _ _ hi
    rw [Nat.zero_add] at this
    unfold freeB at this
    split at this
    · exact .inl ⟨_, ‹_›⟩
    · rename_i v hv
      simp only [Bool.and_eq_true] at this
      refine .inr ⟨v, hv, this.1, fun j t ht => ?_⟩
      have := commAll_at this.2 j t ht
      rwa [Nat.zero_add] at this
    · cases this
  · have h0 := pend_all (w0 := w0) ((silOf vs 0).map (·.2)) [] s (distinct_of (by rw [List.map_map]; exact hsn) (fun _ _ => by simp)) (pr_nil (rl_drawn hR (w.drawn + 1)))
    have := pends_perm (l := silOf vs 0) (n := lenH s.hp) (Pd := [])
    rw [List.append_nil] at this
    exact pr_perm this h0
  · obtain ⟨k, p⟩ := x
    obtain ⟨i, v, h1, h2, _⟩ := mem_silOf.1 (mem_silP hx).2
    have := (List.getElem?_eq_some_iff.1 h1).1
    simp only; omega
  · have hlt := belowOk_at c3 i
    rw [directs_at ho, Nat.zero_add] at hlt
    have hbit : (maskL .any o.after.toList).testBit e.on = true := maskL_spec.2 ⟨e, by simpa using he, hb, rfl⟩
    rcases Nat.lt_or_ge e.on i with h' | h'
    · exact h'
    · have := Nat.testBit_lt_two_pow (Nat.lt_of_lt_of_le hlt (Nat.pow_le_pow_right (by omega) h'))
      rw [this] at hbit; cases hbit

theorem tab_len {clo : Nat → Nat → Bool} {vs : List VOp} : ∀ (l : List VOp) (j : Nat), (tabOf clo vs l j).length = l.length
  | [], _ => rfl
  | _ :: l, j => by simp only [tabOf, List.length_cons, tab_len l]

theorem draw_sound (hE : EnvOk P E) (hm : P.follows .mixedOrders = true) {ops : Array Oper} {al : List (Nat × AL)} {dl : List DOp} (hd : drawOf P ops = some (al, dl)) {A : S → Prop} {κ : Kont} {s : S} {a : Act} {sv : List Act} {w : World} {id : Nat}
    (h : dopsP E A dl (runAl s al)) (hR : Rl w0 s a sv w) (hK : ∀ s a w, A s → Rl w0 s a sv w → κ .normal a w) : (Code.region id ops true).wpIn (Wd rd) 0 P κ a w := by
  unfold drawOf at hd
  obtain ⟨vs, hvs, hd⟩ := Option.bind_eq_some_iff.1 hd
  simp only at hd
  split at hd
  · rename_i hc
    simp only [Option.some.injEq, Prod.mk.injEq] at hd
    obtain ⟨rfl, rfl⟩ := hd
    simp only [Bool.and_eq_true] at hc
    obtain ⟨⟨⟨⟨⟨⟨⟨c0, c1⟩, c2⟩, c3⟩, c4⟩, c5⟩, c6⟩, c7⟩ := hc
    have hlen : vs.length = ops.size := by rw [vopsOf_length hvs]; simp
    refine draw_any hE hm hvs c0 c1 c2 c3 c4 c5 (fun s0 hs0 m1 m2 m3 => ?_) hR hK
    subst hs0
    rw [← Nat.eq_of_beq_eq_true c6]
    have := seq_any m1 m2 m3 _ 0 (Array.replicate ops.size false) _ c7 corr_none down_none (seqS_of (fun i hi => by rw [tab_len, hlen]; exact seqB_lt c7 i hi) h)
    rw [Nat.eq_of_beq_eq_true c6] at this ⊢
    exact this
  · cases hd

theorem drawT_sound (hE : EnvOk P E) (hm : P.follows .mixedOrders = true) {ops : Array Oper} {al : List (Nat × AL)} {t : DTr} (hd : drawTOf P ops = some (al, t)) {A : S → Prop} {κ : Kont} {s : S} {a : Act} {sv : List Act} {w : World} {id : Nat}
    (h : dtrP E A t (runAl s al)) (hR : Rl w0 s a sv w) (hK : ∀ s a w, A s → Rl w0 s a sv w → κ .normal a w) : (Code.region id ops true).wpIn (Wd rd) 0 P κ a w := by
  unfold drawTOf at hd
  obtain ⟨vs, hvs, hd⟩ := Option.bind_eq_some_iff.1 hd
  simp only at hd
  split at hd
  · rename_i hc
    simp only [Option.some.injEq, Prod.mk.injEq] at hd
    obtain ⟨rfl, rfl⟩ := hd
    simp only [Bool.and_eq_true] at hc
    obtain ⟨⟨⟨⟨⟨⟨⟨c0, c1⟩, c2⟩, c3⟩, c4⟩, c5⟩, c6⟩, c7⟩ := hc
    have hlen : vs.length = ops.size := by rw [vopsOf_length hvs]; simp
    refine draw_any hE hm hvs c0 c1 c2 c3 c4 c5 (fun s0 hs0 m1 m2 m3 => ?_) hR hK
    subst hs0
    have := (tree_any m1 m2 m3 _ 0 false (Array.replicate ops.size false) _ c7 corr_none down_none (treeS_of (fun i hi => by rw [tab_len, hlen]; exact treeB_lt c7 i hi) h)).1 rfl
    rw [Nat.eq_of_beq_eq_true c6] at this
    exact this
  · cases hd

end
end Go.Vx

/- The executor is sound: the main theorem, and how a contract is proved with it. -/
/- The executor is sound: the main theorem, and how a contract is proved with it. -/
set_option linter.all false
namespace Go.Vx
open Go.RowKit
section
variable {P : Program} {E : Env} {Q : SV → List HO → Prop} {vr : List VR} {w0 : Cx0} {rd : Option Nat} {ks : List (Nat × Obj)}

/-! ### Regions that draw their order -/

theorem dop_run {n : Nat} {v : VOp} {K : List It} {s : S} (h : dop E (run E Q vr n) v K s) : dopW E v (fun s' => ∃ m, m ≤ n ∧ run E Q vr m K s') s := by
  obtain ⟨d, g, op, xs⟩ := v
  cases g with
  | none =>
    simp only [dop] at h
    unfold dopW
    simp only
    cases hq : op.quiet with
    | true =>
      rw [hq] at h
      simp only [dpl, dq] at h
      simp only [fEff]
      cases he : eff s.hp (lenH s.hp) op (s.args xs) with
      | none => rw [he] at h; exact h.elim
      | some e =>
        obtain ⟨p, x, u⟩ := e
        rw [he] at h
        cases u <;> try exact h.elim
        exact ⟨h.1, n, Nat.le_refl _, h.2⟩
    | false =>
      rw [hq] at h
      simp only [dpl, dcl] at h
      simp only [heavyW]
      cases hc : callee E op (s.args xs) with
      | none =>
        rw [hc] at h
        simp only [effK] at h
        simp only [effW]
        cases he : eff s.hp (lenH s.hp) op (s.args xs) with
        | none => rw [he] at h; exact h.elim
        | some e => rw [he] at h; exact ⟨h.1, n, Nat.le_refl _, h.2⟩
      | some fy =>
        obtain ⟨f, ys⟩ := fy
        rw [hc] at h
        simp only [dct] at h
        simp only [ctW]
        cases hct : E.ct f with
        | none => rw [hct] at h; exact h.elim
        | some c =>
          rw [hct] at h
          exact ⟨h.1, (run_res n h.2).mono fun r hs ⟨m, hm, h2⟩ => ⟨m, by omega, h2⟩⟩
  | some gp =>
    obtain ⟨g, pol⟩ := gp
    simp only [dop, dgd] at h
    unfold dopW
    simp only
    cases hgd : guardOf (getL s.fr g) pol with
    | none => rw [hgd] at h; exact h.elim
    | some gb =>
      rw [hgd] at h
      simp only [dgq] at h
      cases hq : op.quiet with
      | true =>
        rw [hq] at h
        simp only [effG] at h
        simp only [fEff, hgd]
        cases he : eff s.hp (lenH s.hp) op (unoptsO op gb (s.args xs)).2 with
        | none => rw [he] at h; exact h.elim
        | some e =>
          obtain ⟨p, x, u⟩ := e
          rw [he] at h
          cases u <;> try exact h.elim
          exact ⟨⟨h.1, h.2.1⟩, n, Nat.le_refl _, h.2.2⟩
      | false =>
        rw [hq] at h
        simp only [dctG] at h
        simp only [heavyGW, hgd, ctGW]
        cases hct : ctOf E op (unoptsO op gb (s.args xs)).2 with
        | none => rw [hct] at h; exact h.elim
        | some c =>
          rw [hct] at h
          obtain ⟨c, ys⟩ := c
          obtain ⟨hp, hno, h⟩ := h
          obtain ⟨m, r, hm, h1, h2⟩ := run_resG n h
          exact ⟨hp, hno, r, ⟨m, by omega, h1⟩, h2⟩

theorem dopsP_mono {A B : S → Prop} : ∀ (l : List DOp), (∀ s, A s → B s) → ∀ {s : S}, dopsP E A l s → dopsP E B l s
  | [], h, _, hs => h _ hs
  | ⟨_, _⟩ :: l, h, _, hs => ⟨hs.1, dopW_mono (fun _ h' => dopsP_mono l h h') hs.2⟩

theorem dops_run : ∀ (l : List DOp) (n : Nat) {K : List It} {s : S}, run E Q vr n (.dops l :: K) s → dopsP E (fun s' => ∃ m, m < n ∧ run E Q vr m K s') l s
  | _, 0, _, _, h => h.elim
  | [], n + 1, _, _, h => ⟨n, Nat.lt_succ_self n, h⟩
  | ⟨v, chk⟩ :: l, n + 1, _, _, h => ⟨h.1, dopW_mono (fun _ ⟨m, hm, h'⟩ => dopsP_mono l (fun _ ⟨m', hm', h''⟩ => ⟨m', by omega, h''⟩) (dops_run l m h')) (dop_run h.2)⟩

theorem dtrP_mono {A B : S → Prop} : ∀ (t : DTr), (∀ s, A s → B s) → ∀ {s : S}, dtrP E A t s → dtrP E B t s
  | .leaf, h, _, hs => h _ hs
  | .ops l t, h, _, hs => dopsP_mono l (fun _ h' => dtrP_mono t h h') hs
  | .br a b, h, _, hs => ⟨dtrP_mono a h hs.1, dtrP_mono b h hs.2⟩

theorem dtr_run : ∀ (t : DTr) (n : Nat) {K : List It} {s : S}, run E Q vr n (.dtr t :: K) s → dtrP E (fun s' => ∃ m, m < n ∧ run E Q vr m K s') t s
  | _, 0, _, _, h => h.elim
  | .leaf, n + 1, _, _, h => ⟨n, Nat.lt_succ_self n, h⟩
  | .ops l t, n + 1, _, _, h => dopsP_mono l (fun _ ⟨m, hm, h'⟩ => dtrP_mono t (fun _ ⟨m', hm', h''⟩ => ⟨m', by omega, h''⟩) (dtr_run t m h')) (dops_run l n h)
  | .br a b, n + 1, _, _, h => ⟨dtrP_mono a (fun _ ⟨m', hm', h''⟩ => ⟨m', by omega, h''⟩) (dtr_run a n h.1), dtrP_mono b (fun _ ⟨m', hm', h''⟩ => ⟨m', by omega, h''⟩) (dtr_run b n h.2)⟩

/-! ### Frames -/

theorem in_frame {fn : Func} {c : Code} {b : VC} {f : FuncId} (hf : P.funcs[f]? = some fn) (hbody : fn.body = some c) {R : Ending → World → Prop} {args : Array Value} {w : World}
    (h : (Exit.then (c.wpIn (Wd none) 0 P (bodyPostM (Wd none) 0 P fn R)) (bodyPostM (Wd none) 0 P fn R)) .normal { tmps := args ++ Array.replicate (fn.ntmps - args.size) undef, defers := [] } w) : CallsIn (Wd none) 0 P f args w R :=
  callsIn_of_wp_marks hf hbody trivial h

theorem vfunc_inv {fn : Func} {vf : VF} (h : vfunc P fn = some vf) : ∃ c, fn.body = some c ∧ vcode P c = some vf.body ∧ vress P fn.results.toList = some vf.res ∧ vf.ntmps = fn.ntmps := by
  unfold vfunc at h
  obtain ⟨c, hbody, h⟩ := Option.bind_eq_some_iff.1 h
  obtain ⟨b, hcode, h⟩ := Option.bind_eq_some_iff.1 h
  obtain ⟨res, hres, rfl⟩ := Option.map_eq_some_iff.1 h
  exact ⟨c, hbody, hcode, hres, rfl⟩

/-- The parameters of a round. -/
theorem putPs_ok {w : World} {bs : List BK} {B : Bd} : ∀ {ps : List Nat} {ys fr : List SV} {vs : List Value} {tmps : Array Value}, RepL w bs B fr tmps.toList → RepL w bs B ys vs → RepL w bs B (putPs fr ps ys) ((ps.zip vs).foldl (fun t (p : Nat × Value) => t.setIfInBounds p.1 p.2) tmps).toList
  | [], ys, fr, vs, tmps, h, _ => by cases ys <;> simpa [putPs] using h
  | p :: ps, _, fr, _, tmps, h, .nil => by simpa [putPs] using h
  | p :: ps, _, fr, _, tmps, h, .cons y v ys vs h1 h2 => by
    simp only [putPs, List.zip_cons_cons, List.foldl_cons]
    refine putPs_ok ?_ h2
    rw [Array.toList_setIfInBounds]
    exact h.set p h1

/-- One operation that is there, no guard in the way. -/
theorem op_sound (hE : EnvOk P E) {fn0 : Func} {R0 : Ending → World → Prop} {n : Nat} (ih : ∀ m, m ≤ n → ∀ (K : List It) (s : S), run E Q vr m K s → ∀ (sv : List Act) (ks : List (Nat × Obj)) (rd : Option Nat) (κ : Kont) (a : Act) (w : World), KRel P w0 (bodyPostM (Wd none) 0 P fn0 R0) K sv ks rd κ → Rl ⟨w0, ks⟩ s a sv w → κ .normal a w)
    {all : Array Oper} {o : Oper} {rest : List Oper} {l : List VOp} {vo : VO} {ops : List Operand} {xs : List SV} {K : List It} {s : S} {sv : List Act} {κ : Kont} {a : Act} {w : World}
    (hv : vop P o = some (vo, ops)) (hcc : vo.isCall = true → opIsCall o.op = true) (hrest : vopsOf P all rest = some l) (hx : ∀ bs, RepL w bs w0.bd s.fr a.tmps.toList → RepL w bs w0.bd xs (ops.map a.eval))
    (h : runOp E (run E Q vr n) o.dst vo xs (.ops l :: K) s) (hk : KRel P w0 (bodyPostM (Wd none) 0 P fn0 R0) K sv ks rd κ) (hR : Rl ⟨w0, ks⟩ s a sv w) : o.wpIn (Wd rd) 0 P a w (wpListIn (Wd rd) 0 P all κ rest) κ := by
  have hK : KRel P w0 (bodyPostM (Wd none) 0 P fn0 R0) (.ops l :: K) sv ks rd (Exit.then (wpListIn (Wd rd) 0 P all κ rest) κ) := .ops all rest l K sv ks rd κ hrest hk
  obtain ⟨bs, hf, hsv, hH, hb, hoth⟩ := id hR
  have hxx := hx bs hf
  have hB : w0.heap.size ≤ w.heap.size := hb.size
  have hnd := vop_nodefer hv
  unfold runOp at h
  cases hc : callee E vo xs with
  | none =>
    rw [hc] at h
    simp only [opK] at h
    cases hy : yld vo xs with
    | some ly =>
      obtain ⟨l', ys⟩ := ly
      rw [hy] at h
      simp only [yldK] at h
      have hvo : vo = .callv ∧ xs = .fn (.yield l') [] [] :: ys := by
        unfold yld at hy
        split at hy
        · split at hy
          · cases hy; exact ⟨rfl, rfl⟩
          · cases hy
        · cases hy
      obtain ⟨rfl, rfl⟩ := hvo
      cases hfr : findR (.ops l :: K) with
      | none => rw [hfr] at h; exact h.elim
      | some x =>
        obtain ⟨l2, ps, va, vb⟩ := x
        rw [hfr] at h
        cases hss : s.saved with
        | nil => rw [hss] at h; exact h.elim
        | cons fr svs =>
          rw [hss] at h
          obtain ⟨⟨rfl, hlen⟩, hrun⟩ := h
          obtain ⟨q, sa, sv', ks', rfl, rfl, rfl, rfl, htm, hva, hvb⟩ := findR_ok hfr hK
          obtain ⟨c, hop, hcall⟩ := vop_call hv (hcc rfl) rfl
          rcases hcall with ⟨_, h1, _⟩ | ⟨x, _, hcal, rfl⟩ | ⟨_, _, h1, _⟩
          · cases h1
          · obtain ⟨v, vs, hvs, g1, g2⟩ := hxx.cons_inv
            simp only [List.map_cons, List.cons.injEq] at hvs
            obtain ⟨hv1, rfl⟩ := hvs
            obtain ⟨us, us', rfl, g3, g4⟩ := g1.fn_inv
            cases g3.nil_inv; cases g4.nil_inv
            have hrec := rl_record_at hR
            have hsz : (#[] ++ c.args.map a.eval ++ #[] : Array Value).size = q.ps.length := by
              have := g2.length
              simp only [List.length_map, Array.length_toList] at this
              have e2 : ∀ l : List Nat, lenN l = l.length := fun l => by induction l with | nil => rfl | cons _ l ih => simp [lenN, ih]
              rw [e2] at hlen
              simp; omega
            have hex : (execOp a.eval o).run P w = .ok (.round l' q.fn ((q.ps.toArray.zip (#[] ++ c.args.map a.eval ++ #[])).foldl (fun tmps (t, a) => tmps.setIfInBounds t a) q.tmps) q.ca q.cb) w := by
              obtain ⟨dst, op, type, pos, after, guard⟩ := o
              simp only at hop
              subst hop
              simp only [execOp, resolve, hcal, hv1, Deferred.ofValue, Sem.run_bind, Sem.run_pure, Result.andThen_ok, invoke]
              exact run_yield hrec (by simpa [Rec.at] using hsz)
            unfold Oper.wpIn
            rw [Oper.semAt_eq _ _ _ hnd, hex]
            refine ⟨fun _ _ => trivial, fun h => (by cases h), ?_⟩
            refine roundIn_of_wpIn trivial ?_
            refine ih n (Nat.le_refl _) _ _ hrun (a :: sa :: sv') _ _ _ { tmps := _, defers := [] } _ (.code q.ca va _ _ _ (some l') _ hva (.rbeg l' q _ _ ks' _ (.code q.cb vb _ _ _ (some l') _ hvb (.rend o.dst l' q a _ _ ks' _ _ (fun v w h => h) hK)))) ?_
            rw [hss] at hsv
            cases hsv with
            | cons _ _ _ _ k1 k2 =>
              refine ⟨bs, ?_, .cons _ _ _ _ hf (by rw [hss]; exact .cons _ _ _ _ k1 k2), hH, hb, hoth.push⟩
              have := putPs_ok (ps := q.ps) k1 g2
              rw [htm]
              have e : q.ps.toArray.zip (#[] ++ c.args.map a.eval ++ #[]) = (q.ps.zip (c.args.toList.map a.eval)).toArray := by apply Array.ext'; simp
              rw [e]
              simpa using this
          · cases h1
    | none =>
    rw [hy] at h
    simp only [yldK, effK] at h
    cases he : eff s.hp (lenH s.hp) vo xs with
    | none => rw [he] at h; exact h.elim
    | some e =>
      rw [he] at h
      obtain ⟨r, v, w', bs', hrun, hr, h1, h2, h3, h4, h5⟩ := vop_ok (ρ := a.eval) hv he h.1 hxx (fun _ => rfl) (fun _ => rfl) hH hB
      refine wp_of_run hnd (hrun o.dst o.type o.pos o.after o.guard) hr ?_
      exact ih n (Nat.le_refl _) _ _ h.2 sv _ _ _ _ _ hK (upd_rel (op := o.op) hf hsv hb hoth h1 h2 h3 h4 h5 o.dst)
  | some fy =>
    obtain ⟨f, ys⟩ := fy
    rw [hc] at h
    have hcall : vo.isCall = true := by
      unfold callee at hc
      split at hc <;> first | rfl | cases hc
    simp only [opK, callK] at h
    cases hct : E.ct f with
    | some c =>
      rw [hct] at h
      obtain ⟨hok, hen⟩ := hE.ct f c hct
      obtain ⟨vs, hys, hrun⟩ := call_ok hE.meth hv (hcc hcall) hc hxx (fun _ => rfl) hen
      refine wp_of_enter hnd hrun ?_
      obtain ⟨F, up, hargs2, hal⟩ := callee_args c.alias hH.v hB 3 hys h.1
      refine (hok _ vs w F up _ hargs2 (run_res n h.2)).mono ?_
      rintro e w' ⟨r, hs, v, bs2, ⟨m, hm, hrun'⟩, rfl, h1, h2, h3, h4⟩
      exact ih m (by omega) _ _ hrun' sv _ _ _ _ _ hK (call_rel (f := f) (c := c) hf hsv hH hb hoth o.dst h1 h2 h3 h4 hal _ fun _ h => h)
    | none =>
      rw [hct] at h
      simp only [inlK] at h
      cases hfn : E.fn f with
      | none => rw [hfn] at h; exact h.elim
      | some vf =>
        rw [hfn] at h
        obtain ⟨fn, hfs, hvf, hen⟩ := hE.fn f vf hfn
        obtain ⟨vs, hys, hrun⟩ := call_ok hE.meth hv (hcc hcall) hc hxx (fun _ => rfl) hen
        refine wp_of_enter hnd hrun ?_
        obtain ⟨c, hbody, hcode, hres, hnt⟩ := vfunc_inv hvf
        refine calls_of_wd (n := 0) (in_frame (b := vf.body) hfs hbody ?_)
        refine ih n (Nat.le_refl _) _ _ h (a :: sv) _ _ _ _ _ (.code c vf.body _ _ _ _ _ hcode (.frame o.dst vf.res fn a _ _ _ _ _ _ hres (fun v w h => h) hK)) ?_
        refine ⟨bs, ?_, .cons _ _ _ _ hf hsv, hH, hb, hoth.push⟩
        have := padL_ok (n := fn.ntmps) hys
        rw [hnt]
        simpa using this

theorem vopsOf_cons {all : Array Oper} {rest : List Oper} {v : VOp} {l : List VOp} (h : vopsOf P all rest = some (v :: l)) : ∃ o r, rest = o :: r ∧ vopOf P all o = some v ∧ vopsOf P all r = some l := by
  cases rest with
  | nil => cases h
  | cons o r =>
    simp only [vopsOf] at h
    obtain ⟨x, hx, h⟩ := Option.bind_eq_some_iff.1 h
    obtain ⟨y, hy, h⟩ := Option.map_eq_some_iff.1 h
    cases h
    exact ⟨o, r, rfl, hx, hy⟩

theorem vopsOf_nil {all : Array Oper} {rest : List Oper} (h : vopsOf P all rest = some []) : rest = [] := by
  cases rest with
  | nil => rfl
  | cons o r =>
    simp only [vopsOf] at h
    obtain ⟨x, hx, h⟩ := Option.bind_eq_some_iff.1 h
    obtain ⟨y, hy, h⟩ := Option.map_eq_some_iff.1 h
    cases h

theorem vopOf_inv {all : Array Oper} {o : Oper} {v : VOp} (h : vopOf P all o = some v) : ∃ ops, vop P o = some (v.op, ops) ∧ X.ofs ops = some v.xs ∧ (v.op.isCall = true → opIsCall o.op = true) ∧ v.dst = o.dst ∧
    ((o.guard = none ∧ v.g = none) ∨ ∃ j b g, o.guard = some (j, b) ∧ slotOf all j = some g ∧ v.g = some (g, b)) := by
  unfold vopOf at h
  obtain ⟨⟨vo, ops⟩, h1, h⟩ := Option.bind_eq_some_iff.1 h
  obtain ⟨xs, h2, h⟩ := Option.bind_eq_some_iff.1 h
  split at h
  · cases h
  · rename_i hne
    have hne : vo.isCall = true → opIsCall o.op = true := by simpa using hne
    split at h
    · cases h; exact ⟨ops, h1, h2, hne, rfl, .inl ⟨‹_›, rfl⟩⟩
    · obtain ⟨g, hg, rfl⟩ := Option.map_eq_some_iff.1 h
      exact ⟨ops, h1, h2, hne, rfl, .inr ⟨_, _, g, ‹_›, hg, rfl⟩⟩

/-- THE EXECUTOR IS SOUND. -/
theorem run_sound (hE : EnvOk P E) {fn0 : Func} {R0 : Ending → World → Prop} (hres : vress P fn0.results.toList = some vr)
    (hR0 : ∀ r hp v w' bs, Q r hp → Rep w' bs w0.bd r v → Hp w' bs w0.bd hp → Below w0.heap.size w0.toWorld w' → R0 (.returned v) w') :
    ∀ (n : Nat) (K : List It) (s : S), run E Q vr n K s → ∀ (sv : List Act) (ks : List (Nat × Obj)) (rd : Option Nat) (κ : Kont) (a : Act) (w : World), KRel P w0 (bodyPostM (Wd none) 0 P fn0 R0) K sv ks rd κ → Rl ⟨w0, ks⟩ s a sv w → κ .normal a w := by
  have main : ∀ (N n : Nat), n ≤ N → ∀ (K : List It) (s : S), run E Q vr n K s → ∀ (sv : List Act) (ks : List (Nat × Obj)) (rd : Option Nat) (κ : Kont) (a : Act) (w : World), KRel P w0 (bodyPostM (Wd none) 0 P fn0 R0) K sv ks rd κ → Rl ⟨w0, ks⟩ s a sv w → κ .normal a w := by
    intro N
    induction N with
    | zero => intro n hn K s h; have : n = 0 := by omega
              subst this; exact h.elim
    | succ N ihN =>
      intro n hn K s h sv ks rd κ a w hk hR
      cases n with
      | zero => exact h.elim
      | succ n =>
      have ih : ∀ m, m ≤ n → ∀ (K : List It) (s : S), run E Q vr m K s → ∀ (sv : List Act) (ks : List (Nat × Obj)) (rd : Option Nat) (κ : Kont) (a : Act) (w : World), KRel P w0 (bodyPostM (Wd none) 0 P fn0 R0) K sv ks rd κ → Rl ⟨w0, ks⟩ s a sv w → κ .normal a w := fun m hm => ihN m (by omega)
      have ihn := ih n (Nat.le_refl _)
      have hjump : ∀ {K' : List It} {d : Option Nat} {f : Act → World → Prop}, rendK (run E Q vr n) d false K' s.hp s.saved → Jumps P w0 (bodyPostM (Wd none) 0 P fn0 R0) K' d sv ks rd f → f a w := by
        rintro K' d f hr ⟨c, q, l, ita, sv', ks', κ', rfl, rfl, rfl, hk', hf⟩
        cases hs : s.saved with
        | nil => rw [hs] at hr; exact hr.elim
        | cons fr svs =>
          rw [hs] at hr
          have hat := rl_record_at hR
          have hend := run_endRound (P := P) (some c) hat
          have h2 := rl_pop hs (rl_record (lp' := q.at .done (some c)) hR)
          exact hf a w _ _ hend (ihn _ _ hr sv' _ _ _ _ _ hk' (put_rel h2 d fun _ _ _ => .x _ _ (.bool _)))
      cases K with
      | nil =>
        cases hk
        rw [r_end] at h
        cases hv : resVals s vr with
        | none => rw [hv] at h; exact h.elim
        | some x =>
          obtain ⟨p, vs⟩ := x
          rw [hv] at h
          obtain ⟨ms, hms⟩ := rl_marks hR
          refine leaves_ok ms hms hR fun w' hR' => ?_
          obtain ⟨bs, hf, hsv, hH, hb, hoth⟩ := hR'
          obtain ⟨v, h1, h2⟩ := results_ok (P := P) hf hH hres hv h.1
          exact ⟨v, h1, hR0 _ _ _ _ _ h.2 h2 hH hb⟩
      | cons x K =>
      cases x with
      | inBlock i =>
        cases hk with | inBlock _ _ _ _ _ κ hk => exact ihn _ _ h sv _ _ κ a w hk hR
      | inLoop I =>
        cases hk with | inLoop _ J _ _ _ _ κ hJ hk => exact hJ s a w h hR
      | frame d res =>
        cases hk with
        | frame _ _ fn sa _ sv _ rd κ R hr hRR hk =>
          rw [r_frame] at h
          cases hv : resVals s res with
          | none => rw [hv] at h; exact h.elim
          | some x =>
            obtain ⟨p, vs⟩ := x
            rw [hv] at h
            cases hs : s.saved with
            | nil => rw [hs] at h; exact h.elim
            | cons fr sv' =>
              rw [hs] at h
              obtain ⟨ms, hms⟩ := rl_marks hR
              refine leaves_ok ms hms hR fun w' hR' => ?_
              obtain ⟨bs, hf, hsv, hH, hb, hoth⟩ := id hR'
              obtain ⟨v, h1, h2⟩ := results_ok (P := P) hf hH hr hv h.1
              refine ⟨v, h1, hRR v w' (ihn _ _ h.2 sv _ _ κ _ w' hk ?_)⟩
              obtain ⟨bs2, k1, k2, k3, k4, k5⟩ := rl_pop hs hR'
              rw [hs] at hsv
              cases hsv with
              | cons _ _ _ _ g1 g2 =>
                have hp := rl_pop hs hR'
                refine ⟨bs, put_rep (s := { fr := fr, saved := sv', hp := s.hp }) (a := sa) g1 h2, ?_, ?_, hb, ?_⟩
                · rw [put_saved]; exact g2
                · rw [put_hp]; exact hH
                · rw [List.map_cons, put_defers']
                  exact hoth.pop
      | rfrm res l ps va vb j =>
        cases hk with
        | rfrm _ _ q lp _ _ _ fn sa _ sv ks rd κ hr _ hps htm hva hvb hj hk =>
          rw [r_rfrm] at h
          cases hv : resVals s res with
          | none => rw [hv] at h; exact h.elim
          | some x =>
            obtain ⟨p, vs⟩ := x
            rw [hv] at h
            cases hs : s.saved with
            | nil => rw [hs] at h; exact h.elim
            | cons fr sv' =>
              rw [hs] at h
              obtain ⟨hp, h⟩ := h
              obtain ⟨ms, hms⟩ := rl_marks hR
              refine leaves_ok ms hms hR fun w' hR' => ?_
              obtain ⟨bs, hf, hsv, hH, hb, hoth⟩ := id hR'
              obtain ⟨v, h1, h2⟩ := results_ok (P := P) hf hH hr hv hp
              have hat := rl_record_at hR'
              cases hj with
              | none =>
                refine ⟨v, h1, none, _, run_endLoop hat (by simp [Rec.at]), ?_⟩
                exact ihn _ _ h sv _ _ κ sa _ hk (rl_forget (rl_record (rl_pop hs hR')))
              | some c vc hc =>
                refine ⟨v, h1, some c, _, run_endLoop hat (by simp [Rec.at]), ?_⟩
                exact ihn _ _ h sv _ _ _ sa _ (.code c vc K sv ks rd κ hc hk) (rl_forget (rl_record (rl_pop hs hR')))
      | rbeg =>
        cases hk with
        | rbeg l q _ _ ks κ hk =>
          exact ⟨_, run_beginRound (rl_record_at hR) rfl, ihn _ _ h sv _ _ κ a _ hk (rl_record hR)⟩
      | rend d =>
        cases hk with
        | rend _ l q ita _ sv ks κ R hRR hk =>
          rw [r_rend] at h
          cases hs : s.saved with
          | nil => rw [hs] at h; exact h.elim
          | cons fr sv' =>
            rw [hs] at h
            refine ⟨_, _, run_endRound none (rl_record_at hR), hRR _ _ (ihn _ _ h sv _ _ κ _ _ hk ?_)⟩
            exact put_rel (rl_pop hs (rl_record (lp' := q.at .ready none) hR)) d fun _ _ _ => .x _ _ (.bool _)
      | dops l => cases hk
      | dtr t => cases hk
      | res g al d c => cases hk
      | ops l =>
        cases hk with
        | ops all rest _ _ _ _ _ κ hl hk =>
        show wpListIn (Wd rd) 0 P all κ rest a w
        cases l with
        | nil => rw [vopsOf_nil hl]; exact ihn _ _ h sv _ _ κ a w hk hR
        | cons v l =>
          obtain ⟨o, r, rfl, hvo, hlr⟩ := vopsOf_cons hl
          obtain ⟨ops, h1, h2, h3, h4, h5⟩ := vopOf_inv hvo
          obtain ⟨dst, g, op, xs⟩ := v
          simp only at h1 h2 h3 h4 h5
          subst h4
          have hnd := vop_nodefer h1
          have hx : ∀ bs, RepL w bs w0.bd s.fr a.tmps.toList → RepL w bs w0.bd (s.args xs) (ops.map a.eval) := fun bs hf => X_ofs hf h2
          rcases h5 with ⟨hg, rfl⟩ | ⟨j, pol, gs, hg, hsl, rfl⟩
          · rw [r_op] at h
            exact wpList_op (by simp [Region.wanted, hg]) (op_sound hE ih h1 h3 hlr hx h hk hR)
          · rw [r_opg] at h
            have hKr : KRel P w0 (bodyPostM (Wd none) 0 P fn0 R0) (.ops l :: K) sv ks rd (Exit.then (wpListIn (Wd rd) 0 P all κ r) κ) := .ops all r l K sv ks rd κ hlr hk
            cases hgd : guardOf (getL s.fr gs) pol with
            | none => rw [hgd] at h; exact h.elim
            | some gb =>
              rw [hgd, r_g] at h
              obtain ⟨bs, hf, hsv, hH, hb, hoth⟩ := id hR
              have hw := guard_ok (w := w) hf hg hsl hgd
              have hB : w0.heap.size ≤ w.heap.size := hb.size
              cases hq : op.quiet with
              | true =>
                rw [hq] at h
                simp only [gK] at h
                cases he : eff s.hp (lenH s.hp) op (unoptsO op gb (s.args xs)).2 with
                | none => rw [he] at h; exact h.elim
                | some e =>
                  rw [he] at h
                  obtain ⟨q, val, u⟩ := e
                  cases u <;> try exact h.elim
                  obtain ⟨hp1, hp2, hrun⟩ := h
                  cases gb with
                  | true =>
                    obtain ⟨r', v, w', bs', hrn, hr, k1, k2, k3, k4, k5⟩ := vop_ok (ρ := a.eval) h1 he (hp2 rfl) (unoptsO_ok rfl (hx bs hf) hp1) (fun _ => rfl) (fun _ => rfl) hH hB
                    refine wpList_op hw (wp_of_run hnd (hrn o.dst o.type o.pos o.after o.guard) hr ?_)
                    refine ihn _ _ hrun sv _ _ _ _ _ hKr ?_
                    exact upd_rel (e := ⟨q, .opt true val, .no⟩) (op := o.op) hf hsv hb hoth (.optT _ _ k1) k2 k3 k4 k5 o.dst
                  | false =>
                    exact wpList_not hw (ihn _ _ hrun sv _ _ _ _ _ hKr (put_rel hR o.dst fun _ _ _ => .optF _))
              | false =>
                rw [hq] at h
                simp only [gK, callG] at h
                cases hct : ctOf E op (unoptsO op gb (s.args xs)).2 with
                | none =>
                  rw [hct] at h
                  obtain ⟨hp1, ht, hfl⟩ := h
                  cases gb with
                  | true => exact wpList_op hw (op_sound hE ih h1 h3 hlr (fun bs hf => unoptsO_ok rfl (hx bs hf) hp1) (ht rfl) hk hR)
                  | false => exact wpList_not hw (ihn _ _ (hfl rfl) sv _ _ _ _ _ hKr (put_rel hR o.dst fun _ _ _ => .x _ _ (.junk _)))
                | some c =>
                  rw [hct] at h
                  obtain ⟨c, ys⟩ := c
                  obtain ⟨hp1, hno, hrun⟩ := h
                  obtain ⟨m, rr, hm, hrun', hcs⟩ := run_resG n hrun
                  cases gb with
                  | false => exact wpList_not hw (ih m (by omega) _ _ hrun' sv _ _ _ _ _ hKr (put_rel hR o.dst fun _ _ _ => .optF _))
                  | true =>
                    obtain ⟨f, hcl, hct', hic⟩ := ctOf_inv hct
                    obtain ⟨hok, hen⟩ := hE.ct f c hct'
                    obtain ⟨vs, hys, hrn⟩ := call_ok hE.meth h1 (h3 hic) hcl (unoptsO_ok rfl (hx bs hf) hp1) (fun _ => rfl) hen
                    refine wpList_op hw (wp_of_enter hnd hrn ?_)
                    obtain ⟨F, up, hargs2, hal⟩ := callee_args c.alias hH.v hB 3 hys hno
                    refine (hok _ vs w F up _ hargs2 (hcs rfl)).mono ?_
                    rintro e w' ⟨r', hs, v, bs2, ⟨rfl, rfl⟩, rfl, k1, k2, k3, k4⟩
                    have hcr := call_rel (f := f) (c := c) (d := o.dst) hf hsv hH hb hoth k1 k2 k3 k4 hal (.opt true (shift (lenH s.hp) r')) fun _ h => .optT _ _ h
                    refine ih m (by omega) _ _ hrun' sv _ _ _ _ _ hKr ?_
                    have e0 : ({ fr := s.fr, saved := s.saved, hp := s.hp ++ shiftH (lenH s.hp) [] } : S) = s := by simp [shiftH]
                    rw [e0] at hcr
                    exact hcr
      | code c =>
        cases hk with
        | code cc _ _ _ _ _ κ hcode hk =>
        show cc.wpIn (Wd rd) 0 P κ a w
        cases cc <;> simp only [vcode, reduceCtorEq] at hcode <;> try (cases hcode; exact h.elim)
        case skip => cases hcode; exact wpIn_skip (ihn _ _ h sv _ _ κ a w hk hR)
        case region id ops draw =>
          cases draw with
          | true =>
            simp only [if_true] at hcode
            unfold drawC at hcode
            cases hd : drawOf P ops with
            | none =>
              rw [hd] at hcode
              simp only at hcode
              cases hdt : drawTOf P ops with
              | none => rw [hdt] at hcode; cases hcode; exact h.elim
              | some r =>
                obtain ⟨al, t⟩ := r
                rw [hdt] at hcode
                cases hcode
                exact drawT_sound hE hE.mix hdt (dtr_run t n h) hR fun s' a' w' ⟨m, hm, hrun⟩ hR' => ih m (by omega) _ _ hrun sv _ _ κ a' w' hk hR'
            | some r =>
            obtain ⟨al, dl⟩ := r
            rw [hd] at hcode
            cases hcode
            exact draw_sound hE hE.mix hd (dops_run dl n h) hR fun s' a' w' ⟨m, hm, hrun⟩ hR' => ih m (by omega) _ _ hrun sv _ _ κ a' w' hk hR'
          | false =>
            simp only [Bool.false_eq_true, if_false] at hcode
            cases hl : vopsOf P ops ops.toList with
            | none => rw [hl] at hcode; cases hcode; exact h.elim
            | some l =>
            rw [hl] at hcode
            cases hcode
            exact wpIn_region_list (ihn _ _ h sv _ _ _ a w (.ops ops ops.toList l K sv ks rd κ hl hk) hR)
        case seq x y =>
          obtain ⟨vx, hx, hcode⟩ := Option.bind_eq_some_iff.1 hcode
          obtain ⟨vy, hy, rfl⟩ := Option.map_eq_some_iff.1 hcode
          exact wpIn_seq (ihn _ _ h sv _ _ _ a w (.code x vx _ sv ks rd _ hx (.code y vy K sv ks rd κ hy hk)) hR)
        case cond cnd x y =>
          obtain ⟨z, hz, hcode⟩ := Option.bind_eq_some_iff.1 hcode
          obtain ⟨vx, hx, hcode⟩ := Option.bind_eq_some_iff.1 hcode
          obtain ⟨vy, hy, rfl⟩ := Option.map_eq_some_iff.1 hcode
          rw [r_cond] at h
          obtain ⟨bs, hf, hsv, hH, hb, hoth⟩ := id hR
          have hrep := X_of (w := w) hf hz
          generalize s.x z = v at h hrep
          cases v <;> try exact h.elim
          rename_i b
          have hb1 := hrep.bool_inv
          obtain ⟨ht, hfl⟩ := h
          refine wpIn_cond_split hb1 (fun hb => ihn _ _ (ht hb) sv _ _ _ a w (.code x vx K sv ks rd κ hx hk) hR) (fun hb => ihn _ _ (hfl hb) sv _ _ _ a w (.code y vy K sv ks rd κ hy hk) hR)
        case block id c =>
          obtain ⟨vc, hc, rfl⟩ := Option.map_eq_some_iff.1 hcode
          exact wpIn_block (ihn _ _ h sv _ _ _ a w (.code c vc _ sv ks rd _ hc (.inBlock id K sv ks rd κ hk)) hR)
        case loop c =>
          obtain ⟨vc, hc, rfl⟩ := Option.map_eq_some_iff.1 hcode
          obtain ⟨σ, head, inv, μ, lf, hlf, ⟨x0, hx0, hle0⟩, hround⟩ := h
          refine wpIn_loop_ghost (fun k a w => ∃ x, μ x = k ∧ inv x ∧ Rl ⟨w0, ks⟩ (head x) a sv w) (μ x0) ⟨x0, rfl, hx0, leF_ok (hlf _ _ hle0) hR⟩ ?_
          rintro k a w ⟨x, rfl, hx, hRx⟩
          exact ihn _ _ (hround x hx) sv _ _ _ a w (.code c vc _ sv ks rd _ hc (.inLoop _ _ K sv ks rd κ (by
            rintro s' a' w' ⟨y, hy, hlt, hle⟩ hR'
            exact ⟨μ y, hlt, y, rfl, hy, leF_ok (hlf _ _ hle) hR'⟩) hk)) hRx
        case exit id =>
          cases hcode
          rw [r_exit] at h
          cases hp : popTo id K with
          | no => rw [hp] at h; exact h.elim
          | go K' =>
            rw [hp] at h
            obtain ⟨κ', h1, h2⟩ := popTo_ok hp hk
            exact wpIn_exit (h2 _ _ (ihn _ _ h sv _ _ κ' a w h1 hR))
          | jump d K' =>
            rw [hp] at h
            exact wpIn_exit (hjump h (popTo_jump hp hk))
        case ret =>
          cases hcode
          rw [r_ret] at h
          cases hp : popRet K with
          | no => rw [hp] at h; exact h.elim
          | go K' =>
            rw [hp] at h
            obtain ⟨κ', h1, h2⟩ := popRet_ok hp hk
            exact wpIn_ret (h2 _ _ (ihn _ _ h sv _ _ κ' a w h1 hR))
          | jump d K' =>
            rw [hp] at h
            exact wpIn_ret (hjump h (popRet_jump hp hk))
        case rangeFunc g ps ca cb =>
          obtain ⟨z, hz, hcode⟩ := Option.bind_eq_some_iff.1 hcode
          obtain ⟨va, hva, hcode⟩ := Option.bind_eq_some_iff.1 hcode
          obtain ⟨vb, hvb, rfl⟩ := Option.map_eq_some_iff.1 hcode
          rw [r_range] at h
          obtain ⟨bs, hf, hsv, hH, hb, hoth⟩ := id hR
          have hrep := X_of (w := w) hf hz
          generalize s.x z = v at h hrep
          unfold rangeK at h
          split at h
          · rename_i gf us cs
            unfold rangeE at h
            cases hfn : E.fn gf with
            | none => rw [hfn] at h; exact h.elim
            | some vf =>
              rw [hfn] at h
              obtain ⟨hnr, h⟩ := h
              have hrd := notRound_ok hnr hk
              subst hrd
              obtain ⟨fn, hfs, hvf, hen⟩ := hE.fn gf vf hfn
              obtain ⟨c, hbody, hcode, hres', hnt⟩ := vfunc_inv hvf
              obtain ⟨uv, cv, hgv, g1, g2⟩ := hrep.fn_inv
              refine wpIn_rangeFunc fun fr _ => ?_
              have hB : w0.heap.size ≤ w.heap.size := hb.size
              obtain ⟨q, hq⟩ : ∃ q : Rec, q = { fn := fr, ps := ps.toList, ca := ca, cb := cb, D := w.heap.size, tmps := a.tmps } := ⟨_, rfl⟩
              obtain ⟨W1, hW1⟩ : ∃ W1, W1 = (w.alloc (.deferred (some []))).alloc (.loop (q.at .ready none)) := ⟨_, rfl⟩
              have hent : (Instr.enterLoop fr a.tmps ps ca cb (Wd none).round).run P w = .ok (w.heap.size + 1, [mark w.heap.size]) W1 := by
                rw [hW1, hq]
                exact run_enterLoop_outer _ _ _ _ _
              refine ⟨w.heap.size + 1, [mark w.heap.size], W1, { target := .fn (.func gf) cv.toArray, args := uv.toArray ++ #[.func (.yield (w.heap.size + 1)) #[] #[]] }, W1, gf, (uv ++ (.func (.yield (w.heap.size + 1)) #[] #[] :: cv)).toArray, W1,
                hent, ?_, fun _ _ => trivial, ?_, fun h => (by cases h), ?_⟩
              · simp only [resolve, hgv, Deferred.ofValue, Sem.run_bind, Sem.run_pure, Result.andThen_ok]
                simp [Act.eval]
              · simp only [invoke, run_callFunc hen]
                simp
              · refine in_frame (b := vf.body) hfs hbody ?_
                refine ihn _ _ (h (w.heap.size + 1)) ({ a with defers := [mark w.heap.size] ++ a.defers } :: sv) _ _ _ { tmps := _, defers := [] } _ (.code c vf.body _ _ _ _ _ hcode (.rfrm vf.res _ q (q.at .ready none) va vb none fn _ _ _ _ _ _ hres' ps.toList (by rw [hq]) (by rw [hq]) (by rw [hq]; exact hva) (by rw [hq]; exact hvb) .none hk)) ?_
                rw [hW1]
                refine rl_enter hf hsv hH hb hoth ?_
                have hy : Rep w bs w0.bd (.fn (.yield (w.heap.size + 1)) [] []) (.func (.yield (w.heap.size + 1)) #[] #[]) := .x _ _ (.fn _ [] [] [] [] .nil .nil)
                have := padL_ok (n := fn.ntmps) (g1.append (.cons _ _ _ _ hy g2))
                rw [hnt]
                simpa using this
          · exact h.elim
  exact fun n => main n n (Nat.le_refl _)

end
end Go.Vx

/- How a contract is proved with the executor. -/
/- How a contract is proved with the executor. -/
set_option linter.all false
namespace Go.Vx
open Go.RowKit
section
variable {P : Program} {E : Env}

/-- A result answers what a contract says, nothing of the call's own memory left to be written. -/
def answers (al : Bool) (k : SV → List HO → Prop) (r : SV) (hp : List HO) : Prop :=
  ∃ r', k r' [] ∧ le 0 0 (expo hp r) r' ∧ (al = false → freshS r')

theorem cut_nil : Cut [] [] 0 0 := ⟨rfl, rfl, fun _ _ h => absurd h (Nat.not_lt_zero _), fun _ _ h => absurd h (Nat.not_lt_zero _)⟩

theorem hp_nil {w : World} {B : Bd} : Hp w [] B [] := ⟨rfl, fun i => .inr (by simp), fun _ _ _ _ _ _ _ h => by simp at h, fun _ _ _ _ h => by simp at h⟩

theorem XRepL.up {w : World} {bs : List BK} {B : Bd} {l : List SV} {vs : List Value} (h : XRepL w bs B l vs) : RepL w bs B l vs := h.rep

/-- A CONTRACT OUT OF A RUN. 'args': what the contract is asked at; the run begins with arguments that these cover. -/
theorem contract {f : FuncId} {fn : Func} {vf : VF} (hf : P.funcs[f]? = some fn) (hvf : vfunc P fn = some vf) (hE : EnvOk P E) (n : Nat) (c : Ctr)
    (h : ∀ (args : List SV) (k : SV → List HO → Prop), CSat (c.of args) k → ∃ args', leL 0 0 args args' ∧ run E (answers c.alias k) vf.res n [.code vf.body] { fr := padL vf.ntmps args', saved := [], hp := [] }) : c.ok P f := by
  intro args vs w F up k hx hc
  obtain ⟨args', hle, hrun⟩ := h args k hc
  have hx2 : RepL w [] (.at w F up) args' vs := leL_ok cut_nil _ _ hle hx.rep
  obtain ⟨body, hbody, hcode, hres, hnt⟩ := vfunc_inv hvf
  refine calls_of_wd (n := 0) (in_frame (b := vf.body) hf hbody ?_)
  refine run_sound (w0 := ⟨w, F, up⟩) (fn0 := fn) (R0 := fun e w' => ∃ r hs v bs, k r hs ∧ e = .returned v ∧ Rep w' bs (.at w F up) r v ∧ Hp w' bs (.at w F up) hs ∧ Below w.heap.size w w' ∧ (c.alias = false → freshS r ∧ freshH hs)) hE hres (by
    rintro r hp v w' bs ⟨r', hk, hle, hfr⟩ hr hH hb
    refine ⟨r', [], v, [], hk, rfl, le_ok cut_nil _ _ hle (.x _ _ (expo_ok hH hr)), hp_nil, hb, fun ha => ⟨hfr ha, trivial⟩⟩) n _ _ hrun [] [] none _
    { tmps := vs.toArray ++ Array.replicate (fn.ntmps - vs.toArray.size) undef, defers := [] } w (.code body vf.body [] [] [] none _ hcode .nil) ?_
  refine ⟨[], ?_, .nil, hp_nil, Below.refl _ _, ⟨fun _ h => (by cases h), .nil, [[]], rfl, by simp, fun _ h => (by simp at h)⟩⟩
  have := padL_ok (n := fn.ntmps) hx2
  rw [hnt]
  simpa [Cx0.bd, Bd.at] using this

/-! ### Loops -/

def wrOps : List VOp → List Nat
  | [] => []
  | ⟨some d, _, _, _⟩ :: l => d :: wrOps l
  | ⟨none, _, _, _⟩ :: l => wrOps l

def wrAl : List (Nat × AL) → List Nat
  | [] => []
  | (d, _) :: l => d :: wrAl l

def wrDops : List DOp → List Nat
  | [] => []
  | ⟨⟨some d, _, _, _⟩, _⟩ :: l => d :: wrDops l
  | ⟨⟨none, _, _, _⟩, _⟩ :: l => wrDops l

def wrDtr : DTr → List Nat
  | .leaf => []
  | .ops l t => wrDops l ++ wrDtr t
  | .br a b => wrDtr a ++ wrDtr b

/-- The slots that a piece of code writes. -/
def wrC : VC → List Nat
  | .region l => wrOps l
  | .draw al l => wrAl al ++ wrDops l
  | .drawT al t => wrAl al ++ wrDtr t
  | .seq a b => wrC a ++ wrC b
  | .cond _ a b => wrC a ++ wrC b
  | .block _ c => wrC c
  | .loop c => wrC c
  | _ => []

def junkAt : List SV → List Nat → List SV
  | fr, [] => fr
  | fr, n :: l => junkAt (setL fr n .junk) l

def putAll : List SV → List (Nat × SV) → List SV
  | fr, [] => fr
  | fr, (n, v) :: l => putAll (setL fr n v) l

def putHs : List HO → List (Nat × HO) → List HO
  | hp, [] => hp
  | hp, (n, v) :: l => putHs (setH hp n v) l

/-- The state at a loop's head: what the loop writes is told by 'slots' and 'blocks', or is anything. -/
def headOf (s : S) (body : VC) (ghosts : List HO) (slots : List (Nat × SV)) (blocks : List (Nat × HO)) : S :=
  { fr := putAll (junkAt s.fr (wrC body)) slots, saved := s.saved, hp := putHs (s.hp ++ ghosts) blocks }

theorem Loop.at {r : List It → S → Prop} {body : VC} {K : List It} {s : S} (σ : Type) (slots : σ → List (Nat × SV)) (blocks : σ → List (Nat × HO)) (ghosts : List HO) (inv : σ → Prop) (μ : σ → Nat)
    (h0 : ∃ x, inv x ∧ leS s (headOf s body ghosts (slots x) (blocks x)))
    (h : ∀ x, inv x → r (.code body :: .inLoop (fun s' => ∃ y, inv y ∧ μ y < μ x ∧ leS s' (headOf s body ghosts (slots y) (blocks y))) :: K) (headOf s body ghosts (slots x) (blocks x))) : Loop r body K s leF :=
  ⟨σ, fun x => headOf s body ghosts (slots x) (blocks x), inv, μ, leS, fun _ _ h => ⟨[], trivial, h⟩, h0, h⟩

/-- The slots that are kept, told by the gaps between them; the others may be anything. -/
def keepG : List Nat → List SV → List SV
  | [], l => junks l
  | _, [] => []
  | 0 :: ks, x :: l => x :: keepG ks l
  | (k + 1) :: ks, _ :: l => .junk :: keepG (k :: ks) l

def headK (s : S) (keep : List Nat) (ghosts : List HO) (slots : List (Nat × SV)) (blocks : List (Nat × HO)) : S :=
  { fr := putAll (keepG keep s.fr) slots, saved := s.saved, hp := putHs (s.hp ++ ghosts) blocks }

theorem Loop.keep {r : List It → S → Prop} {body : VC} {K : List It} {s : S} (keep : List Nat) (σ : Type) (slots : σ → List (Nat × SV)) (blocks : σ → List (Nat × HO)) (ghosts : List HO) (inv : σ → Prop) (μ : σ → Nat)
    (h0 : ∃ x, inv x ∧ leS s (headK s keep ghosts (slots x) (blocks x)))
    (h : ∀ x, inv x → r (.code body :: .inLoop (fun s' => ∃ y, inv y ∧ μ y < μ x ∧ leS s' (headK s keep ghosts (slots y) (blocks y))) :: K) (headK s keep ghosts (slots x) (blocks x))) : Loop r body K s leF :=
  ⟨σ, fun x => headK s keep ghosts (slots x) (blocks x), inv, μ, leS, fun _ _ h => ⟨[], trivial, h⟩, h0, h⟩

end
end Go.Vx

/- The last steps: what 'answers' and 'leS' say, form by form. -/
/- The last steps: what 'answers' and 'leS' say, form by form. -/
set_option linter.all false
namespace Go.Vx
variable {al : Bool} {k : SV → List HO → Prop} {hp : List HO} {m n : Nat}

theorem ans_int {κ : IntKind} {x : Int} (h : k (.int κ x) []) : answers al k (.int κ x) hp := ⟨_, h, by simp [expo, view, le], fun _ => by simp [freshS]⟩
theorem ans_bool {b : Bool} (h : k (.bool b) []) : answers al k (.bool b) hp := ⟨_, h, by simp [expo, view, le], fun _ => by simp [freshS]⟩
theorem ans_le {x r' : SV} (h : k r' []) (hl : le 0 0 (expo hp x) r') (hf : al = false → freshS r') : answers al k x hp := ⟨_, h, hl, hf⟩

theorem le_junk {x : SV} : le m n x .junk = True := by cases x <;> simp [le]
theorem le_int {κ κ' : IntKind} {x y : Int} : le m n (.int κ x) (.int κ' y) = (κ = κ' ∧ x = y) := by simp [le]
theorem le_bool {x y : Bool} : le m n (.bool x) (.bool y) = (x = y) := by simp [le]
theorem le_nil : le m n .nil .nil = True := by simp [le, bnd]
theorem le_agg {a b : List SV} : le m n (.agg a) (.agg b) = leL m n a b := by simp [le]
theorem le_tup {a b : List SV} : le m n (.tup a) (.tup b) = leL m n a b := by simp [le]
theorem le_vs {t t' z z' : Bool} {l l' sz sz' : Nat} {g g' : Nat → List SV} : le m n (.vs t z l sz g) (.vs t' z' l' sz' g') = ((t' = true → t = true) ∧ z = z' ∧ l = l' ∧ sz = sz' ∧ ∀ k, k < l → leXL (g k) (g' k)) := by simp [le]
theorem le_ptr {i o i' o' : Nat} : le m n (.ptr i o) (.ptr i' o') = (i = i' ∧ o = o' ∧ i' < n) := by simp [le, bnd, and_assoc]
theorem le_own {i lo l sz i' lo' l' sz' : Nat} : le m n (.own i lo l sz) (.own i' lo' l' sz') = (i = i' ∧ lo = lo' ∧ l = l' ∧ sz = sz' ∧ i < n) := by simp [le]
theorem le_xp {t t' : Bool} {c c' : List SV} : le m n (.xp t c) (.xp t' c') = ((t' = true → t = true) ∧ leXL c c') := by simp [le]
theorem le_fn {f f' : Fn} {a b a' b' : List SV} : le m n (.fn f a b) (.fn f' a' b') = (f = f' ∧ a = a' ∧ b = b' ∧ bndL n a' ∧ bndL n b') := by simp [le, bnd, and_assoc]
theorem le_opt {b b' : Bool} {x y : SV} : le m n (.opt b x) (.opt b' y) = (b = b' ∧ x = y ∧ bnd n y) := by simp [le, bnd, and_assoc]
theorem le_val {x y : Value} : le m n (.val x) (.val y) = (x = y) := by simp [le, bnd]
theorem le_elem {i k o sz i' k' o' sz' : Nat} : le m n (.elem i k o sz) (.elem i' k' o' sz') = (i = i' ∧ k = k' ∧ o = o' ∧ sz = sz' ∧ i' < n) := by simp [le, bnd, and_assoc]
theorem leXL_id {x : List SV} : leXL x x = True := eq_true (leXL_self x)
theorem le_nil_own {i lo l sz : Nat} : le m n .nil (.own i lo l sz) = (m ≤ i ∧ i < n ∧ lo = 0 ∧ l = 0) := by simp [le]
theorem le_nil_vs {t z : Bool} {l sz : Nat} {g : Nat → List SV} : le m n .nil (.vs t z l sz g) = (z = true ∧ l = 0) := by simp [le]
theorem leH_ghost {z : Bool} {sz l : Nat} {g : Nat → List SV} {r : List HO} : leH m n [] (.own z sz l g :: r) = (z = true ∧ l = 0 ∧ leH m n [] r) := rfl
theorem lenH_nil : lenH [] = 0 := rfl
theorem lenH_cons {x : HO} {a : List HO} : lenH (x :: a) = lenH a + 1 := rfl
theorem leL_nil : leL m n [] [] = True := by simp [leL]
theorem leL_cons {x y : SV} {a b : List SV} : leL m n (x :: a) (y :: b) = (le m n x y ∧ leL m n a b) := by simp [leL]
theorem leLL_nil : leLL m n [] [] = True := by simp [leLL]
theorem leLL_cons {x y : List SV} {a b : List (List SV)} : leLL m n (x :: a) (y :: b) = (leL m n x y ∧ leLL m n a b) := by simp [leLL]
theorem leH_nil {h : List HO} : leH m n h [] = True := by cases h <;> simp [leH]
theorem leH1_box {a b : List SV} : leH1 m n (.box a) (.box b) = leL m n a b := by simp [leH1]
theorem leH1_gone : leH1 m n .gone .gone = True := by simp [leH1]
theorem leH1_own {z z' : Bool} {sz sz' l l' : Nat} {g g' : Nat → List SV} : leH1 m n (.own z sz l g) (.own z' sz' l' g') = (z = z' ∧ sz = sz' ∧ l = l' ∧ ∀ k, k < l → leL m n (g k) (g' k)) := by simp [leH1]
theorem leS_mk {fr fr' : List SV} {sv sv' : List (List SV)} {h h' : List HO} : leS ⟨fr, sv, h⟩ ⟨fr', sv', h'⟩ = (leL (lenH h) (lenH h') fr fr' ∧ leLL (lenH h) (lenH h') sv sv' ∧ leH (lenH h) (lenH h') h h') := rfl
theorem bnd_int {k : IntKind} {x : Int} : bnd n (.int k x) = True := rfl
theorem bnd_bool {b : Bool} : bnd n (.bool b) = True := rfl
theorem bnd_val {v : Value} : bnd n (.val v) = True := rfl
theorem bnd_nil : bnd n .nil = True := rfl
theorem bnd_junk : bnd n .junk = True := rfl
theorem bnd_vs {t z : Bool} {l sz : Nat} {g : Nat → List SV} : bnd n (.vs t z l sz g) = True := rfl
theorem bnd_xp {t : Bool} {c : List SV} : bnd n (.xp t c) = True := rfl
theorem bnd_agg {c : List SV} : bnd n (.agg c) = bndL n c := rfl
theorem bnd_tup {c : List SV} : bnd n (.tup c) = bndL n c := rfl
theorem bnd_ptr {i o : Nat} : bnd n (.ptr i o) = (i < n) := rfl
theorem bnd_own {i a b c : Nat} : bnd n (.own i a b c) = (i < n) := rfl
theorem bnd_elem {i a b c : Nat} : bnd n (.elem i a b c) = (i < n) := rfl
theorem bnd_fn {f : Fn} {a b : List SV} : bnd n (.fn f a b) = (bndL n a ∧ bndL n b) := rfl
theorem bnd_iface {t : TypeId} {v : SV} : bnd n (.iface t v) = bnd n v := rfl
theorem bnd_opt {b : Bool} {v : SV} : bnd n (.opt b v) = bnd n v := rfl
theorem bndL_nil : bndL n [] = True := rfl
theorem bndL_cons {x : SV} {l : List SV} : bndL n (x :: l) = (bnd n x ∧ bndL n l) := rfl

mutual
theorem le_self : ∀ (x : SV), bnd n x → le m n x x
  | .int _ _, _ => ⟨rfl, rfl⟩
  | .bool _, _ => rfl
  | .val _, h => ⟨rfl, h⟩
  | .nil, h => ⟨rfl, h⟩
  | .agg cs, h => leL_self cs h
  | .tup cs, h => leL_self cs h
  | .vs _ _ _ _ get, _ => ⟨id, rfl, rfl, rfl, fun k _ => leXL_self (get k)⟩
  | .xp _ cs, _ => ⟨id, leXL_self cs⟩
  | .ptr _ _, h => ⟨rfl, h⟩
  | .own _ _ _ _, h => ⟨rfl, rfl, rfl, rfl, h⟩
  | .elem _ _ _ _, h => ⟨rfl, h⟩
  | .fn _ _ _, h => ⟨rfl, h⟩
  | .iface _ _, h => ⟨rfl, h⟩
  | .opt _ _, h => ⟨rfl, h⟩
  | .junk, _ => trivial
theorem leL_self : ∀ (x : List SV), bndL n x → leL m n x x
  | [], _ => trivial
  | x :: l, h => ⟨le_self x h.1, leL_self l h.2⟩
end

mutual
/-- What was read covers. -/
theorem leX_le : ∀ (x y : SV), leX x y → bnd n y → le m n x y
  | .agg cs, y, h, hb => by
    cases y with
    | agg ds => exact leXL_le cs ds h hb
    | junk => trivial
    | _ => cases h
  | .tup cs, y, h, hb => by
    cases y with
    | tup ds => exact leXL_le cs ds h hb
    | junk => trivial
    | _ => cases h
  | .int _ _, y, h, hb => by cases y <;> first | trivial | exact h | cases h
  | .bool _, y, h, hb => by cases y <;> first | trivial | exact h | cases h
  | .val _, y, h, hb => by cases y <;> first | trivial | (cases h; done) | (cases h; exact ⟨rfl, hb⟩)
  | .nil, y, h, hb => by cases y <;> first | trivial | exact h | (cases h; done) | (cases h; exact ⟨rfl, hb⟩)
  | .vs _ _ _ _ _, y, h, hb => by cases y <;> first | trivial | exact h | cases h
  | .xp _ _, y, h, hb => by cases y <;> first | trivial | exact h | cases h
  | .ptr _ _, y, h, hb => by cases y <;> first | trivial | (cases h; done) | (cases h; exact ⟨rfl, hb⟩)
  | .own _ _ _ _, y, h, hb => by cases y <;> first | trivial | (cases h; done) | (cases h; exact ⟨rfl, rfl, rfl, rfl, hb⟩)
  | .elem _ _ _ _, y, h, hb => by cases y <;> first | trivial | (cases h; done) | (cases h; exact ⟨rfl, hb⟩)
  | .fn _ _ _, y, h, hb => by cases y <;> first | trivial | (cases h; done) | (cases h; exact ⟨rfl, hb⟩)
  | .iface _ _, y, h, hb => by cases y <;> first | trivial | (cases h; done) | (cases h; exact ⟨rfl, hb⟩)
  | .opt _ _, y, h, hb => by cases y <;> first | trivial | (cases h; done) | (cases h; exact ⟨rfl, hb⟩)
  | .junk, y, h, hb => by cases y <;> first | trivial | (cases h; done)
theorem leXL_le : ∀ (x y : List SV), leXL x y → bndL n y → leL m n x y
  | [], y, h, hb => by
    cases y with
    | nil => trivial
    | cons _ _ => exact h.elim
  | x :: l, y, h, hb => by
    cases y with
    | nil => exact h.elim
    | cons a r => exact ⟨leX_le x a h.1 hb.1, leXL_le l r h.2 hb.2⟩
end

theorem bndL_take : ∀ (k : Nat) (l : List SV), bndL n l → bndL n (takeL k l)
  | 0, _, _ => trivial
  | _ + 1, [], _ => trivial
  | k + 1, _ :: l, h => ⟨h.1, bndL_take k l h.2⟩
theorem bndL_drop : ∀ (k : Nat) (l : List SV), bndL n l → bndL n (dropL k l)
  | 0, _, h => h
  | _ + 1, [], _ => trivial
  | k + 1, _ :: l, h => bndL_drop k l h.2

/-- Elements of a slice literal. -/
theorem leL_chunk {sz k : Nat} {cs : List SV} (h : bndL n cs = True) : leL m n (chunk sz cs k) (chunk sz cs k) = True :=
  eq_true (leL_self _ (bndL_take _ _ (bndL_drop _ _ (of_eq_true h))))

theorem subLo_z (n : Nat) : subLo n 0 = n := rfl
theorem addLo_z (k : Nat) : addLo 0 k = k := rfl
theorem subLo_one (n : Nat) : subLo n (Int.toNat 1) = n - 1 := rfl
theorem addLo_one (k : Nat) : addLo (Int.toNat 1) k = 1 + k := rfl
end Go.Vx

/- Data that came in, as the executor's values: by shapes of types. -/
/- Data that came in, as the executor's values: by shapes of types. -/
set_option linter.all false
namespace Go.Vx
open Go.RowKit Go.WideShapes Go.ChangeShapes

/-- The shape of one cell. -/
inductive Sh where
  | int (k : IntKind)
  | bool
  | str
  | slice (l : List Sh)

def lenSh : List Sh → Nat
  | [] => 0
  | _ :: l => lenSh l + 1

mutual
/-- A value of a shape: nothing of new memory is told. -/
def okS : Sh → SV → Prop
  | .int k, v => ∃ n, v = .int k n ∧ (Lit.int k n).wf = true
  | .bool, v => ∃ b, v = .bool b
  | .str, v => ∃ s : ByteArray, v = .val (.string s) ∧ s.size ≤ maxLen
  | .slice l, v => ∃ z n get, v = .vs false z n (lenSh l) get ∧ n ≤ maxLen ∧ ∀ k, k < n → okSL l (get k)
def okSL : List Sh → List SV → Prop
  | [], [] => True
  | s :: l, v :: r => okS s v ∧ okSL l r
  | _, _ => False
end

def flatFields (P : Program) (fl : TypeId → Option (List Sh)) : Nat → List Field → Option (List Sh)
  | _, [] => some []
  | off, f :: fs => bif Nat.beq f.offset off then (fl f.type).bind fun l => bif Nat.beq (lenSh l) (P.cellsOf f.type) then (flatFields P fl (off + P.cellsOf f.type) fs).map (l ++ ·) else none else none

def repSh : Nat → List Sh → List Sh
  | 0, _ => []
  | n + 1, l => l ++ repSh n l

def flat (P : Program) : Nat → TypeId → Option (List Sh)
  | 0, _ => none
  | n + 1, t => match P.underlying t with
    | some (.int k) => some [.int k]
    | some .bool => some [.bool]
    | some .string => some [.str]
    | some (.slice e) => (flat P n e).bind fun l => bif Nat.beq (lenSh l) (P.cellsOf e) then (bif Nat.ble 1 (lenSh l) then some [.slice l] else none) else none
    | some (.struct fs) => (flatFields P (flat P n) 0 fs.toList).bind fun l => bif Nat.beq (lenSh l) (P.cellsOf t) then some l else none
    | some (.array m e) => (flat P n e).bind fun l => bif Nat.beq (lenSh l) (P.cellsOf e) then (bif Nat.beq (m * P.cellsOf e) (P.cellsOf t) then some (repSh m l) else none) else none
    | _ => none

theorem lenSh_app : ∀ (a b : List Sh), lenSh (a ++ b) = lenSh a + lenSh b
  | [], b => by simp [lenSh]
  | _ :: a, b => by simp [lenSh, lenSh_app a b]; omega

theorem okSL_app : ∀ {a b : List Sh} {x y : List SV}, okSL a x → okSL b y → okSL (a ++ b) (x ++ y)
  | [], _, [], _, _, h => h
  | [], _, _ :: _, _, h, _ => h.elim
  | _ :: _, _, [], _, h, _ => h.elim
  | _ :: _, _, _ :: _, _, h, h' => ⟨h.1, okSL_app h.2 h'⟩

/-- All blocks may be read. -/
def bd0 (n : Nat) : Bd := ⟨n, fun _ => True, fun _ _ => trivial⟩

section
variable {H : Type} {enc : TypeId × Value → H} {P : Program} {w : World} {B : Nat} {base : Nat} {spare : Nat → Bool} {held : Bool}

theorem XRepL.append : ∀ {l r : List SV} {vs us : List Value}, XRepL w [] (bd0 B) l vs → XRepL w [] (bd0 B) r us → XRepL w [] (bd0 B) (l ++ r) (vs ++ us)
  | _, _, _, _, .nil, h => h
  | _, _, _, _, .cons x v l vs h h', hr => .cons _ _ _ _ h (XRepL.append h' hr)

theorem flatFields_rep {fl : TypeId → Option (List Sh)} {fuel : Nat} {cs : List Value}
    (ih : ∀ (t : TypeId) (cs : List Value) (x : DataW H × List MemPlace) (l : List Sh), fl t = some l → DataW.trod enc P w base spare held fuel t cs = some x → ∃ svs, XRepL w [] (bd0 B) svs cs ∧ okSL l svs) :
    ∀ (fs : List Field) (off : Nat) (l : List Sh), flatFields P fl off fs = some l → (∀ f ∈ fs, ∃ x, DataW.trod enc P w base spare held fuel f.type ((cs.drop f.offset).take (P.cellsOf f.type)) = some x) → off + lenSh l = cs.length →
      ∃ svs, XRepL w [] (bd0 B) svs (cs.drop off) ∧ okSL l svs
  | [], off, l, h, _, hl => by
    simp only [flatFields, Option.some.injEq] at h
    subst h
    simp only [lenSh, Nat.add_zero] at hl
    refine ⟨[], ?_, trivial⟩
    rw [List.drop_of_length_le (by omega)]; exact .nil
  | f :: fs, off, l, h, hall, hl => by
    unfold flatFields at h
    cases hb : Nat.beq f.offset off with
    | false => rw [hb] at h; cases h
    | true =>
      rw [hb] at h
      have ho := Nat.eq_of_beq_eq_true hb
      obtain ⟨l1, h1, h⟩ := Option.bind_eq_some_iff.1 h
      cases hb2 : Nat.beq (lenSh l1) (P.cellsOf f.type) with
      | false => rw [hb2] at h; cases h
      | true =>
        rw [hb2] at h
        have hsz := Nat.eq_of_beq_eq_true hb2
        obtain ⟨l2, h2, rfl⟩ := Option.map_eq_some_iff.1 h
        obtain ⟨x, hx⟩ := hall f List.mem_cons_self
        obtain ⟨s1, r1, o1⟩ := ih _ _ _ _ h1 hx
        obtain ⟨s2, r2, o2⟩ := flatFields_rep ih fs _ _ h2 (fun g hg => hall g (List.mem_cons_of_mem _ hg)) (by rw [lenSh_app] at hl; omega)
        refine ⟨s1 ++ s2, ?_, okSL_app o1 o2⟩
        have := r1.append r2
        rw [ho] at this
        have e : (cs.drop off).take (P.cellsOf f.type) ++ cs.drop (off + P.cellsOf f.type) = cs.drop off := by
          rw [← List.drop_drop]; exact List.take_append_drop _ _
        rwa [e] at this

theorem flatArr_rep {fuel : Nat} {cs : List Value} {e : TypeId} {l : List Sh} (hs : lenSh l = P.cellsOf e)
    (ih : ∀ (cs : List Value) (x : DataW H × List MemPlace), DataW.trod enc P w base spare held fuel e cs = some x → ∃ svs, XRepL w [] (bd0 B) svs cs ∧ okSL l svs) :
    ∀ (k j : Nat), (∀ i, j ≤ i → i < j + k → ∃ x, DataW.trod enc P w base spare held fuel e ((cs.drop (i * P.cellsOf e)).take (P.cellsOf e)) = some x) → j * P.cellsOf e + k * P.cellsOf e = cs.length →
      ∃ svs, XRepL w [] (bd0 B) svs (cs.drop (j * P.cellsOf e)) ∧ okSL (repSh k l) svs
  | 0, j, _, hl => by
    refine ⟨[], ?_, trivial⟩
    rw [List.drop_of_length_le (by omega)]; exact .nil
  | k + 1, j, hall, hl => by
    obtain ⟨x, hx⟩ := hall j (Nat.le_refl _) (by omega)
    obtain ⟨s1, r1, o1⟩ := ih _ _ hx
    obtain ⟨s2, r2, o2⟩ := flatArr_rep hs ih k (j + 1) (fun i h1 h2 => hall i (by omega) (by omega)) (by rw [Nat.succ_mul] at hl ⊢; omega)
    refine ⟨s1 ++ s2, ?_, okSL_app o1 o2⟩
    have := r1.append r2
    have e : (cs.drop (j * P.cellsOf e)).take (P.cellsOf e) ++ cs.drop ((j + 1) * P.cellsOf e) = cs.drop (j * P.cellsOf e) := by
      rw [Nat.succ_mul, ← List.drop_drop]; exact List.take_append_drop _ _
    rwa [e] at this

theorem mapM_some {α β : Type} {g : α → Option β} : ∀ {l : List α} {r : List β}, l.mapM g = some r → ∀ x ∈ l, ∃ y, g x = some y
  | [], _, _, x, hx => by cases hx
  | a :: l, r, h, x, hx => by
    rw [List.mapM_cons] at h
    cases ha : g a with
    | none => rw [ha] at h; cases h
    | some y =>
      rw [ha] at h
      cases hl : l.mapM g with
      | none => rw [hl] at h; cases h
      | some ys =>
        rcases List.mem_cons.1 hx with rfl | hx
        · exact ⟨y, ha⟩
        · exact mapM_some hl x hx

theorem cells_get {a : Addr} {n : Nat} {cs : List Value} (h : w.cells? base a n = some cs) : cs.length = n ∧ ∀ j v, cs[j]? = some v → w.cell? (a.add j) = some v := by
  unfold World.cells? at h
  split at h
  · have key : ∀ (l : List Nat) (r : List Value), l.mapM (fun i => w.cell? (a.add i)) = some r → r.length = l.length ∧ ∀ (j : Nat) (v : Value), r[j]? = some v → ∃ i, l[j]? = some i ∧ w.cell? (a.add i) = some v := by
      intro l
      induction l with
      | nil => intro r h; simp at h; subst h; exact ⟨rfl, fun j v h => by simp at h⟩
      | cons i l ih =>
        intro r h
        rw [List.mapM_cons] at h
        cases hi : w.cell? (a.add i) with
        | none => rw [hi] at h; cases h
        | some v0 =>
          rw [hi] at h
          cases hl : l.mapM (fun i => w.cell? (a.add i)) with
          | none => rw [hl] at h; cases h
          | some r' =>
            rw [hl] at h
            cases h
            obtain ⟨h1, h2⟩ := ih r' hl
            refine ⟨by simp [h1], fun j v hj => ?_⟩
            cases j with
            | zero => simp only [List.getElem?_cons_zero, Option.some.injEq] at hj; subst hj; exact ⟨i, rfl, hi⟩
            | succ j => obtain ⟨i', k1, k2⟩ := h2 j v (by simpa using hj); exact ⟨i', by simpa using k1, k2⟩
    obtain ⟨h1, h2⟩ := key _ _ h
    refine ⟨by simpa using h1, fun j v hj => ?_⟩
    obtain ⟨i, k1, k2⟩ := h2 j v hj
    have : j < n := by
      have := (List.getElem?_eq_some_iff.1 hj).1
      simp at h1; omega
    rw [List.getElem?_range this] at k1
    cases k1; exact k2
  · cases h

theorem cell_block {a : Addr} {v : Value} (h : w.cell? a = some v) : a.spot = none ∧ ∃ cs T fz, w.heap[a.block]? = some (.cells cs T fz) ∧ cs[a.off]? = some v := by
  unfold World.cell? at h
  split at h
  · split at h
    · cases h
    · rename_i hs
      exact ⟨by cases hq : a.spot with | none => rfl | some _ => rw [hq] at hs; simp at hs, _, _, _, ‹_›, h⟩
  · cases h

theorem trod_rep : ∀ (n fuel : Nat) (t : TypeId) (cs : List Value) (x : DataW H × List MemPlace) (l : List Sh), flat P n t = some l → DataW.trod enc P w base spare held fuel t cs = some x → ∃ svs, XRepL w [] (bd0 B) svs cs ∧ okSL l svs := by
  intro n
  induction n with
  | zero => intro fuel t cs x l h; cases h
  | succ n ih =>
    intro fuel t cs x l h hx
    unfold flat at h
    split at h
    · rename_i k hu
      cases h
      obtain ⟨m, rfl, _, hw⟩ := DataW.trod_int hu hx
      exact ⟨[.int k m], .cons _ _ _ _ (.int _ _) .nil, ⟨m, rfl, hw⟩, trivial⟩
    · rename_i hu
      cases h
      obtain ⟨b, rfl, _⟩ := DataW.trod_bool hu hx
      exact ⟨[.bool b], .cons _ _ _ _ (.bool _) .nil, ⟨b, rfl⟩, trivial⟩
    · rename_i hu
      cases h
      obtain ⟨s, rfl, _, hs⟩ := DataW.trod_string hu hx
      exact ⟨[.val (.string s)], .cons _ _ _ _ (.val _) .nil, ⟨s, rfl, hs⟩, trivial⟩
    · rename_i e hu
      obtain ⟨le, he, h⟩ := Option.bind_eq_some_iff.1 h
      cases hb : Nat.beq (lenSh le) (P.cellsOf e) with
      | false => rw [hb] at h; cases h
      | true =>
      rw [hb] at h
      have hsz := Nat.eq_of_beq_eq_true hb
      cases hb1 : Nat.ble 1 (lenSh le) with
      | false => rw [hb1] at h; cases h
      | true =>
      rw [hb1] at h
      have hpos := Nat.le_of_ble_eq_true hb1
      cases h
      rcases Deep.open_slice hu hx with ⟨rfl, _⟩ | ⟨a, len, cap, m, fu, D, Pl, rfl, hba, hlc, hcm, hm, _, hel⟩
      · exact ⟨[.vs false true 0 (lenSh le) fun _ => []], .cons _ _ _ _ (.vs _ _ _ _ _ none 0 (fun _ => []) rfl (Nat.le_refl _) (fun _ => ⟨rfl, rfl⟩) (fun k hk => by omega) (fun k hk => by omega)) .nil,
          ⟨true, 0, _, rfl, Nat.zero_le _, fun k hk => by omega⟩, trivial⟩
      · have hlm : len ≤ m := by rw [hm]; split <;> omega
        have hel' : ∀ k, ∃ vals svs, k < len → w.cells? base (a.add (k * P.cellsOf e)) (P.cellsOf e) = some vals ∧ XRepL w [] (bd0 B) svs vals ∧ okSL le svs := by
          intro k
          by_cases hk : k < len
          · obtain ⟨cs', h1, h2⟩ := hel k (by omega)
            obtain ⟨svs, h3, h4⟩ := ih fu e cs' _ _ he h2
            exact ⟨cs', svs, fun _ => ⟨h1, h3, h4⟩⟩
          · exact ⟨[], [], fun h => absurd h hk⟩
        obtain ⟨vals, hv⟩ := Classical.axiomOfChoice hel'
        obtain ⟨get, hg⟩ := Classical.axiomOfChoice hv
        refine ⟨[.vs false false len (lenSh le) get], .cons _ _ _ _ (.vs _ _ _ _ _ (some a) cap vals rfl hlc (fun h => by cases h) (fun k hk => ?_) (fun k hk => (hg k hk).2.1)) .nil, ⟨false, len, get, rfl, by omega, fun k hk => (hg k hk).2.2⟩, trivial⟩
        have h0 := (hg 0 (by omega)).1
        obtain ⟨l0, c0⟩ := cells_get h0
        have hsp : a.spot = none := by
          cases hv0 : vals 0 with
          | nil => rw [hv0] at l0; simp at l0; omega
          | cons v r =>
            have := (cell_block (c0 0 v (by rw [hv0]; rfl))).1
            simpa [Addr.add] using this
        obtain ⟨lk, ck⟩ := cells_get (hg k hk).1
        refine ⟨a, rfl, hsp, ⟨free_nil, trivial⟩, (fun h => by cases h), by rw [lk, hsz], ?_⟩
        cases hvk : vals k with
        | nil => rw [hvk] at lk; simp at lk; omega
        | cons v r =>
          rw [hvk] at ck
          have e1 : ∀ j, (a.add (k * P.cellsOf e)).add j = ⟨a.block, a.off + k * P.cellsOf e + j, none⟩ := by
            intro j
            obtain ⟨ab, ao, asp⟩ := a
            simp only at hsp
            subst hsp
            unfold Addr.add
            split <;> split <;> simp_all <;> omega
          obtain ⟨_, cs2, T, fz, hb, hc⟩ := cell_block (ck 0 v rfl)
          rw [e1] at hb
          refine ⟨cs2, T, fz, hb, fun j u hj => ?_⟩
          obtain ⟨_, cs3, T3, fz3, hb3, hc3⟩ := cell_block (ck j u hj)
          rw [e1] at hb3 hc3
          simp only at hb hb3 hc3
          rw [hb] at hb3; cases hb3
          rw [hsz]
          exact hc3
    · rename_i fs hu
      obtain ⟨l0, hf, h⟩ := Option.bind_eq_some_iff.1 h
      cases hb : Nat.beq (lenSh l0) (P.cellsOf t) with
      | false => rw [hb] at h; cases h
      | true =>
        rw [hb] at h
        cases h
        have hsz := Nat.eq_of_beq_eq_true hb
        cases fuel with
        | zero => simp [DataW.trod] at hx
        | succ fuel =>
          unfold DataW.trod at hx
          rw [hu] at hx
          simp only at hx
          split at hx
          · rename_i hlen
            obtain ⟨xs, hxs, _⟩ := Option.map_eq_some_iff.1 hx
            have := flatFields_rep (cs := cs) (B := B) (fun t cs x l h h' => ih fuel t cs x l h h') fs.toList 0 l hf (fun f hf => mapM_some hxs f hf) (by omega)
            simpa using this
          · cases hx
    · rename_i m e hu
      obtain ⟨l0, hf, h⟩ := Option.bind_eq_some_iff.1 h
      cases hb : Nat.beq (lenSh l0) (P.cellsOf e) with
      | false => rw [hb] at h; cases h
      | true =>
        rw [hb] at h
        have hsz := Nat.eq_of_beq_eq_true hb
        cases hb2 : Nat.beq (m * P.cellsOf e) (P.cellsOf t) with
        | false => rw [hb2] at h; cases h
        | true =>
          rw [hb2] at h
          cases h
          have hsz2 := Nat.eq_of_beq_eq_true hb2
          cases fuel with
          | zero => simp [DataW.trod] at hx
          | succ fuel =>
            unfold DataW.trod at hx
            rw [hu] at hx
            simp only at hx
            split at hx
            · rename_i hlen
              obtain ⟨xs, hxs, _⟩ := Option.map_eq_some_iff.1 hx
              have := flatArr_rep (cs := cs) (B := B) hsz (fun cs x h' => ih fuel e cs x l0 hf h') m 0 (fun i _ hi => mapM_some hxs i (List.mem_range.2 (by omega))) (by omega)
              simpa using this
            · cases hx
    · cases h

/-! ### Parameters -/

structure PSh where
  agg : Bool
  l : List Sh

def okP (p : PSh) (v : SV) : Prop :=
  match p.agg with
  | true => ∃ cs, v = .agg cs ∧ okSL p.l cs
  | false => okSL p.l [v]

def okPL : List PSh → List SV → Prop
  | [], [] => True
  | p :: l, v :: r => okP p v ∧ okPL l r
  | _, _ => False

def pflat (P : Program) (t : TypeId) : Option PSh :=
  (flat P 16 t).bind fun l => match P.underlying t with
    | some (.struct _) => some ⟨true, l⟩
    | some (.array _ _) => some ⟨true, l⟩
    | some (.int _) | some .bool | some .string | some (.slice _) => some ⟨false, l⟩
    | _ => none

def pflats (P : Program) : List TypeId → Option (List PSh)
  | [] => some []
  | t :: l => (pflat P t).bind fun p => (pflats P l).map (p :: ·)

theorem flat_one {n : Nat} {t : TypeId} {l : List Sh} (h : flat P n t = some l) (hu : (∃ k, P.underlying t = some (.int k)) ∨ P.underlying t = some .bool ∨ P.underlying t = some .string ∨ ∃ e, P.underlying t = some (.slice e)) : ∃ s, l = [s] := by
  cases n with
  | zero => cases h
  | succ n =>
    unfold flat at h
    rcases hu with ⟨k, hu⟩ | hu | hu | ⟨e, hu⟩ <;> rw [hu] at h <;> simp only at h
    · cases h; exact ⟨_, rfl⟩
    · cases h; exact ⟨_, rfl⟩
    · cases h; exact ⟨_, rfl⟩
    · obtain ⟨le, _, h⟩ := Option.bind_eq_some_iff.1 h
      cases hb : Nat.beq (lenSh le) (P.cellsOf e) with
      | false => rw [hb] at h; cases h
      | true =>
        rw [hb] at h
        cases hb1 : Nat.ble 1 (lenSh le) with
        | false => rw [hb1] at h; cases h
        | true => rw [hb1] at h; cases h; exact ⟨_, rfl⟩

theorem param_rep {r : Reach} {b0 : Nat} {t : TypeId} {v : Value} {d : DataW H} {ps : List MemPlace} {p : PSh} (hp : pflat P t = some p) (hval : Value.okWide P w r b0 t v) (hd : DataW.Trod enc P w base spare held t v d ps) : ∃ sv, XRep w [] (bd0 B) sv v ∧ okP p sv := by
  obtain ⟨fuel, hf⟩ := id hd
  unfold pflat at hp
  obtain ⟨l, hl, hp⟩ := Option.bind_eq_some_iff.1 hp
  obtain ⟨svs, h1, h2⟩ := trod_rep (B := B) 16 fuel t _ _ l hl hf
  have one : ∀ (c : Value), v.cells.toList = [c] → v = c → (∃ s, l = [s]) → ∃ sv, XRep w [] (bd0 B) sv v ∧ okP ⟨false, l⟩ sv := by
    rintro c hc rfl ⟨s, rfl⟩
    rw [hc] at h1
    cases h1 with
    | cons sv _ svs' _ k1 k2 =>
      cases k2
      exact ⟨sv, k1, h2⟩
  split at hp
  · rename_i fs hu
    cases hp
    unfold Value.okWide at hval
    rw [hu] at hval
    simp only at hval
    obtain ⟨cs, rfl, _⟩ := hval
    refine ⟨.agg svs, ?_, svs, rfl, h2⟩
    have := XRep.agg (w := w) (bs := []) (B := bd0 B) svs cs.toList h1
    simpa using this
  · rename_i m e hu
    cases hp
    unfold Value.okWide at hval
    rw [hu] at hval
    simp only at hval
    obtain ⟨cs, rfl, _⟩ := hval
    refine ⟨.agg svs, ?_, svs, rfl, h2⟩
    have := XRep.agg (w := w) (bs := []) (B := bd0 B) svs cs.toList h1
    simpa using this
  · rename_i k hu
    cases hp
    obtain ⟨n, rfl⟩ := okWide_int hu hval
    exact one _ rfl rfl (flat_one hl (.inl ⟨_, hu⟩))
  · rename_i hu
    cases hp
    obtain ⟨n, rfl⟩ := okWide_bool hu hval
    exact one _ rfl rfl (flat_one hl (.inr (.inl hu)))
  · rename_i hu
    cases hp
    obtain ⟨n, rfl⟩ := okWide_string hu hval
    exact one _ rfl rfl (flat_one hl (.inr (.inr (.inl hu))))
  · rename_i e hu
    cases hp
    obtain ⟨a, len, cap, rfl⟩ := okWide_slice hu hval
    exact one _ rfl rfl (flat_one hl (.inr (.inr (.inr ⟨_, hu⟩))))
  · cases hp

theorem params_rep {r : Reach} {b0 : Nat} : ∀ {ts : List TypeId} {vs : List Value} {ds : List (DataW H)} {ps : List MemPlace} {shs : List PSh}, pflats P ts = some shs → (∀ (j : Nat) t v, ts[j]? = some t → vs[j]? = some v → Value.okWide P w r b0 t v) →
    DataW.TrodAll enc P w base spare held ts vs ds ps → ∃ svs, XRepL w [] (bd0 B) svs vs ∧ okPL shs svs
  | [], vs, ds, ps, shs, h, _, hd => by
    simp only [pflats, Option.some.injEq] at h
    subst h
    obtain ⟨rfl, _, _⟩ := trodAll_nil hd
    exact ⟨[], .nil, trivial⟩
  | t :: ts, vs, ds, ps, shs, h, hv, hd => by
    unfold pflats at h
    obtain ⟨p, hp, h⟩ := Option.bind_eq_some_iff.1 h
    obtain ⟨shs', hs, rfl⟩ := Option.map_eq_some_iff.1 h
    obtain ⟨v, vs', d, ds', p1, q1, rfl, rfl, rfl, h1, h2⟩ := trodAll_cons hd
    obtain ⟨sv, k1, k2⟩ := param_rep (B := B) hp (hv 0 t v rfl rfl) h1
    obtain ⟨svs, k3, k4⟩ := params_rep hs (fun j t' v' ht hv' => hv (j + 1) t' v' (by simpa using ht) (by simpa using hv')) h2
    exact ⟨sv :: svs, .cons _ _ _ _ k1 k3, k2, k4⟩

end

def readB (P : Program) (ts : List TypeId) : Bool := ts.all fun t => P.readableRec t && Nat.blt t P.types.size

theorem params_again {H : Type} {enc : TypeId × Value → H} {P : Program} (hl : laidOutB P = true) {W W' : World} (hb : Below W.heap.size W W') :
    ∀ {ts : List TypeId} {vs : List Value} {ds : List (DataW H)} {ps : List MemPlace}, readB P ts = true → DataW.TrodAll enc P W 0 (fun _ => true) true ts vs ds ps → DataW.TrodAll enc P W' 0 (fun b => decide (b < W.heap.size)) true ts vs ds ps
  | [], vs, ds, ps, _, h => by
    obtain ⟨rfl, rfl, rfl⟩ := trodAll_nil h
    rfl
  | t :: ts, vs, ds, ps, hr, h => by
    obtain ⟨v, vs', d, ds', p1, q1, rfl, rfl, rfl, h1, h2⟩ := trodAll_cons h
    simp only [readB, List.all_cons, Bool.and_eq_true] at hr
    have hlt : ∀ x ∈ p1, x.block < W.heap.size := by obtain ⟨m, hm⟩ := h1; exact DataW.trod_lt m _ _ _ hm
    refine ⟨_, _, Below.trod hl hr.1.1 ?_ h1 hb hlt, params_again hl hb hr.2 h2, rfl⟩
    have := hr.1.2
    simpa using this

theorem trodAll_len {H : Type} {enc : TypeId × Value → H} {P : Program} {W : World} {base : Nat} {spare : Nat → Bool} {held : Bool} :
    ∀ {ts : List TypeId} {vs : List Value} {ds : List (DataW H)} {ps : List MemPlace}, DataW.TrodAll enc P W base spare held ts vs ds ps → ds.length = ts.length
  | [], vs, ds, ps, h => by obtain ⟨_, rfl, _⟩ := trodAll_nil h; rfl
  | t :: ts, vs, ds, ps, h => by
    obtain ⟨v, vs', d, ds', p1, q1, rfl, rfl, rfl, h1, h2⟩ := trodAll_cons h
    simp [trodAll_len h2]

theorem okSL_cons_inv {s : Sh} {l : List Sh} {c : List SV} (h : okSL (s :: l) c) : ∃ x r, c = x :: r ∧ okS s x ∧ okSL l r := by
  cases c with
  | nil => exact h.elim
  | cons x r => exact ⟨x, r, rfl, h.1, h.2⟩
theorem okSL_nil_inv {c : List SV} (h : okSL [] c) : c = [] := by
  cases c with
  | nil => rfl
  | cons x r => exact h.elim
theorem okPL_cons_inv {p : PSh} {l : List PSh} {c : List SV} (h : okPL (p :: l) c) : ∃ x r, c = x :: r ∧ okP p x ∧ okPL l r := by
  cases c with
  | nil => exact h.elim
  | cons x r => exact ⟨x, r, rfl, h.1, h.2⟩
theorem okPL_nil_inv {c : List SV} (h : okPL [] c) : c = [] := by
  cases c with
  | nil => rfl
  | cons x r => exact h.elim
theorem okP_agg_inv {l : List Sh} {v : SV} (h : okP ⟨true, l⟩ v) : ∃ cs, v = .agg cs ∧ okSL l cs := h
theorem okP_one_inv {s : Sh} {v : SV} (h : okP ⟨false, [s]⟩ v) : okS s v := h.1

/-- A list out of what was read. -/
theorem list_of {α : Type} [Inhabited α] {n : Nat} {P : Nat → α → Prop} (h : ∀ k, k < n → ∃ x, P k x) : ∃ l : List α, l.length = n ∧ ∀ k, k < n → P k (l.getD k default) := by
  induction n with
  | zero => exact ⟨[], rfl, fun k hk => absurd hk (Nat.not_lt_zero _)⟩
  | succ n ih =>
    obtain ⟨l, h1, h2⟩ := ih fun k hk => h k (by omega)
    obtain ⟨x, hx⟩ := h n (by omega)
    refine ⟨l ++ [x], by simp [h1], fun k hk => ?_⟩
    rcases Nat.lt_or_ge k n with h' | h'
    · have := h2 k h'
      rw [List.getD_eq_getElem?_getD] at this ⊢
      rwa [List.getElem?_append_left (by omega)]
    · obtain rfl : k = n := by omega
      rw [List.getD_eq_getElem?_getD, List.getElem?_append_right (by omega), h1, Nat.sub_self]
      exact hx

/-- The contract of a law: whatever comes in, true. -/
def lawC (shs : List PSh) : Ctr := { alias := false, of := fun l => .pre (okPL shs l) (.fin (.bool true) []) }

/-- A LAW'S STATEMENT OUT OF ITS CONTRACT. -/
theorem law_lifted {C : Checked} {f : FuncId} {fn : Func} {s : ChangeSpec} {dom : List PathCond} {os : Os} {H : Type} {enc : TypeId × Value → H} {shs : List PSh} {tb : TypeId}
    (own : ownKnob C.prog.godebug = none) (started : os.Started) (noInit : C.prog.inits.idxOf? f = none) (hfn : C.prog.funcs[f]? = some fn) (hl : laidOutB C.prog = true)
    (witness : ∃ (w : World) (tape : Tape) (i : Input), w.os = os ∧ (w.forCall tape i).Shaped C.prog ∧ i.vars = [] ∧ Input.okWide C.prog (w.forCall tape i) .any w.heap.size f i ∧
      s.pre6 enc C.prog fn dom false (w.forCall tape i).memory i.args ∧ ({} : Assume).holds C.prog (lone (Frame.enter C.prog f i.args .normal) [] (w.forCall tape i)))
    (hsh : pflats C.prog fn.params.toList = some shs) (hread : readB C.prog fn.params.toList = true) (hres : fn.resultTypes.toList = [tb]) (htb : C.prog.underlying tb = some .bool) (hvars : s.vars = [])
    (hspec : ∀ ds : List (DataW H), ds.length = fn.params.toList.length → (s.fn H ds).results = [.lit (.bool true)] ∧ (s.fn H ds).args = ds ∧ (s.fn H ds).vars = []) (hc : (lawC shs).ok C.prog f) :
    ReturnsInHanded {} C os f .any (s.pre6 enc C.prog fn dom false) (s.post enc C.prog fn false true false false) := by
  refine returnsInHanded_of_change own started noInit hfn witness ?_
  intro W base args ds gs before hval hW hcnd _
  obtain ⟨p, q, hA, hV, hbef, hfz, hnd⟩ := id hW
  have hlen := trodAll_len hA
  rw [hvars] at hV
  obtain ⟨rfl, rfl⟩ := trodVars_none hV
  obtain ⟨svs, k1, k2⟩ := params_rep (B := W.heap.size) hsh (fun j t v ht hv => hval j t v (by simpa using ht) (by simpa using hv)) hA
  have hcall := hc svs args.toList W (fun _ => True) (fun _ _ => trivial) (fun r hs => r = .bool true) k1 ⟨k2, rfl⟩
  simp only [Array.toArray_toList] at hcall
  refine hcall.mono fun e W' h => ?_
  obtain ⟨r, hs, v, bs, rfl, rfl, hr, _, hb, _⟩ := h
  have hv := hr.bool_inv
  subst hv
  obtain ⟨s1, s2, s3⟩ := hspec ds hlen
  refine ⟨_, rfl, ds, [], before, [], p, [], hW, ?_, ?_, ?_, hb.frame _, fun h => by cases h⟩
  · rw [List.append_nil, s1, hres]
    have hsz : fn.resultTypes.size = 1 := by rw [← Array.length_toList, hres]; rfl
    have : (Value.bool true).resultList fn.resultTypes.size = [.bool true] := by rw [hsz]; rfl
    rw [this]
    exact trodAll_mk1 (shut_bool htb true)
  · rw [List.append_nil, s2]
    exact params_again hl hb hread hA
  · rw [List.append_nil, s3, hvars]; rfl

end Go.Vx

/- The executor's rules as one set of rewrite rules; forms with literals get rules of their own. -/
/- The executor's rules as one set of rewrite rules; forms with literals get rules of their own. -/
set_option linter.all false
namespace Go.Vx

def idxK (ho : HO) (n size j : Nat) (i : Int) : Option Ef :=
  match ho with
  | .own _ sz m _ => pure1 (0 ≤ i ∧ i < n ∧ sz = size ∧ m = n) (.elem j i.toNat 0 size)
  | .box _ => pure1 (0 ≤ i ∧ i < n) (.ptr j (idxN i size))
  | _ => none
theorem q_idx {hp : List HO} {n size j : Nat} {k : IntKind} {i : Int} : eIdxArr hp n size [.ptr j 0, .int k i] = idxK (getH hp j) n size j i := rfl
theorem idxN_01 : idxN 0 1 = 0 := rfl
theorem idxN_02 : idxN 0 2 = 0 := rfl
theorem idxN_03 : idxN 0 3 = 0 := rfl
theorem idxN_04 : idxN 0 4 = 0 := rfl
theorem idxN_12 : idxN 1 2 = 2 := rfl
theorem idxN_22 : idxN 2 2 = 4 := rfl
theorem idxN_13 : idxN 1 3 = 3 := rfl
theorem idxN_14 : idxN 1 4 = 4 := rfl

def stoK (ho : HO) (size i off : Nat) (vals : List SV) : Option Ef :=
  match ho with
  | .box cs => some { pre := off + size ≤ lenL cs, val := .junk, upd := .set i (.box (spliceL cs off vals)) }
  | .own z sz n _ => match off with
    | 0 => some { pre := size = n * sz ∧ 0 < sz, val := .junk, upd := .set i (.own z sz n (chunk sz vals)) }
    | _ => none
  | .gone => none
def stoE (ho : HO) (size i k off sz : Nat) (vals : List SV) : Option Ef :=
  match ho with
  | .own z size' n get => some { pre := k < n ∧ sz = size' ∧ off + size ≤ sz, val := .junk, upd := .set i (.own z size' n fun j => if j = k then spliceL (get k) off vals else get j) }
  | _ => none
theorem q_stoP {hp : List HO} {size i off : Nat} {vals : List SV} : storeAt hp size vals (.ptr i off) = stoK (getH hp i) size i off vals := rfl
theorem q_stoB {size i off : Nat} {cs vals : List SV} : stoK (.box cs) size i off vals = some { pre := off + size ≤ lenL cs, val := .junk, upd := .set i (.box (spliceL cs off vals)) } := rfl
theorem q_stoO {z : Bool} {sz n size i : Nat} {g : Nat → List SV} {vals : List SV} : stoK (.own z sz n g) size i 0 vals = some { pre := size = n * sz ∧ 0 < sz, val := .junk, upd := .set i (.own z sz n (chunk sz vals)) } := rfl
theorem q_stoE {hp : List HO} {size i k off sz : Nat} {vals : List SV} : storeAt hp size vals (.elem i k off sz) = stoE (getH hp i) size i k off sz vals := rfl

def appN (nx size bytes : Nat) (r : Option (Nat × (Nat → List SV))) : Option Ef :=
  r.bind fun (m, gx) => eNew (.own (decide (m = 0)) size m gx) (.own (nx) 0 m size) (capOk m bytes ∧ ∀ k, k < m → lenL (gx k) = size ∧ ones (gx k))
def appO (ho : HO) (i n sz size bytes : Nat) (r : Option (Nat × (Nat → List SV))) : Option Ef :=
  match ho with
  | .own z s' _ get => r.map fun (m, gx) =>
        { pre := sz = size ∧ s' = size ∧ capOk (n + m) bytes ∧ ∀ k, k < m → lenL (gx k) = size ∧ ones (gx k), val := .own i 0 (n + m) size,
          upd := .app i (.own (z && decide (m = 0)) size (n + m) fun k => if k < n then purgeL i (get k) else purgeL i (gx (k - n))) }
  | _ => none
theorem q_appN {nx : Nat} {hp : List HO} {size bytes : Nat} {x : SV} : eAppend nx hp size bytes [.nil, x] = appN nx size bytes (readS hp x) := rfl
theorem q_appO {nx : Nat} {hp : List HO} {size bytes i n sz : Nat} {x : SV} : eAppend nx hp size bytes [.own i 0 n sz, x] = appO (getH hp i) i n sz size bytes (readS hp x) := rfl
def sliK (ho : HO) (n size j : Nat) : Option Ef :=
  match ho with
  | .own _ sz m _ => pure1 (sz = size ∧ m = n) (.own j 0 n size)
  | _ => none
theorem q_sli {hp : List HO} {n size j : Nat} : eSliceArr hp n size false false [.ptr j 0] = sliK (getH hp j) n size j := rfl

theorem q_ownC {n : Nat} {get : Nat → List SV} : ownCells 0 n get = some (True, flatC n 0 get) := rfl
theorem q_fl1 {get : Nat → List SV} : flatC 1 0 get = get 0 ++ [] := rfl
theorem q_fl2 {get : Nat → List SV} : flatC 2 0 get = get 0 ++ (get 1 ++ []) := rfl
theorem q_fl3 {get : Nat → List SV} : flatC 3 0 get = get 0 ++ (get 1 ++ (get 2 ++ [])) := rfl
theorem q_fl4 {get : Nat → List SV} : flatC 4 0 get = get 0 ++ (get 1 ++ (get 2 ++ (get 3 ++ []))) := rfl
theorem q_ch1 {cs : List SV} : chunk 1 cs 0 = takeL 1 cs := rfl
theorem q_ch11 {cs : List SV} : chunk 1 cs 1 = takeL 1 (dropL 1 cs) := rfl
theorem q_ch12 {cs : List SV} : chunk 1 cs 2 = takeL 1 (dropL 2 cs) := rfl
theorem q_ch13 {cs : List SV} : chunk 1 cs 3 = takeL 1 (dropL 3 cs) := rfl

theorem q_fo (b : Bool) : (false || b) = b := rfl
theorem q_to (b : Bool) : (true || b) = true := rfl
/-- The state at a loop's head where frames below told of block i: they do so no longer. -/
def headPu (s : S) (i : Nat) (keep : List Nat) (ghosts : List HO) (slots : List (Nat × SV)) (blocks : List (Nat × HO)) : S :=
  { fr := putAll (keepG keep s.fr) slots, saved := purgeLL i s.saved, hp := putHs (s.hp ++ ghosts) blocks }
theorem Loop.keepP {r : List It → S → Prop} {body : VC} {K : List It} {s : S} (i : Nat) (keep : List Nat) (σ : Type) (slots : σ → List (Nat × SV)) (blocks : σ → List (Nat × HO)) (ghosts : List HO) (inv : σ → Prop) (μ : σ → Nat)
    (h0 : ∃ x, inv x ∧ leS s (headPu s i keep ghosts (slots x) (blocks x)))
    (h : ∀ x, inv x → r (.code body :: .inLoop (fun s' => ∃ y, inv y ∧ μ y < μ x ∧ leS s' (headPu s i keep ghosts (slots y) (blocks y))) :: K) (headPu s i keep ghosts (slots x) (blocks x))) : Loop r body K s leF :=
  ⟨σ, fun x => headPu s i keep ghosts (slots x) (blocks x), inv, μ, leS, fun _ _ h => ⟨[], trivial, h⟩, h0, h⟩

/-- Like Loop.keep; blocks that are written no more may be told as values ('leF': the list of their numbers). -/
theorem Loop.keepF {r : List It → S → Prop} {body : VC} {K : List It} {s : S} (keep : List Nat) (σ : Type) (slots : σ → List (Nat × SV)) (blocks : σ → List (Nat × HO)) (ghosts : List HO) (inv : σ → Prop) (μ : σ → Nat)
    (h0 : ∃ x, inv x ∧ leF s (headK s keep ghosts (slots x) (blocks x)))
    (h : ∀ x, inv x → r (.code body :: .inLoop (fun s' => ∃ y, inv y ∧ μ y < μ x ∧ leF s' (headK s keep ghosts (slots y) (blocks y))) :: K) (headK s keep ghosts (slots x) (blocks x))) : Loop r body K s leF :=
  ⟨σ, fun x => headK s keep ghosts (slots x) (blocks x), inv, μ, leF, fun _ _ h => h, h0, h⟩

attribute [go_sem] u0 u1 u2 w0 w1 calleeM ctM ctI frzV frzL frzLL frzHs frz1 frzP1 frzS frzP eIface r_end r_end1 r_nil r_op r_opg r_runOp r_op0 r_yld0 r_yld1 r_y r_rbeg r_rend r_rend1 r_rfrm r_rfrm1 r_range r_rangeK r_rangeE r_draw r_drawT r_tleaf r_tops r_tbr s_chkF s_chkT VO.isAppend chkG chkA napP napB there r_dnil r_dop r_dopg r_dplq r_dplh r_dq r_dq0 r_dcl1 r_dcl0 r_dct1 r_dct0 r_dgd r_dgq1 r_dgq0 r_dctG r_op1 r_eff r_eff0 r_call r_call0 r_inl r_g r_gq r_gc r_effg r_effg0 r_callg r_callg0 r_fin r_pre r_imp r_all r_ex r_fing r_preg r_exg r_inBlock r_inLoop r_frame r_frame1 r_skip r_stuck r_region r_seq r_cond r_cond1 r_block r_exit r_exit1 r_exit2 r_ret r_loop s_args0 s_args1 s_xt s_xc padL blankL callee callArgs eff ctOf getL setL S.put S.upd unopts unopt unoptsO unoptsB lazyO guardOf gbool eMov eNot eNeg eConv eExt eLenArr eLen eLenStr eEqb eEqv allEq eNil negIf eBool2 eCmp eAri ari eBit eDiv eSh eMinMax foldMin foldMax kEq pure1 cmpB VO.quiet resVals resVal tupled popRet popTo cond eNew eBox asCells lenH snocH eFieldAddr eField eLoad cellsAt getH setH dropL takeL mkAgg lenL lenS shift shiftL shiftH viewN viewL view andT junks eIdxAddr idxN_0 idxN_1 idxN_2 idxN_3 eIndex eStore spliceL ones one eSlice bounds subLo_z addLo_z subLo_one addLo_one eMake readS repL buildCells chunk purgeL purgeLL purgeH purge refs refsL wrOps wrAl wrDtr wrDops wrC junkAt putAll putHs headOf headK keepG headX chkP apartP apartB blk strip runAl AL.ho yld putPs lenN findR notRound jumpK jumpPT jcode idxK q_idx idxN_01 idxN_02 idxN_03 idxN_04 idxN_12 idxN_22 idxN_13 idxN_14 stoE q_stoP q_stoB q_stoO q_stoE appN appO q_appN q_appO sliK q_sli noOwn noOwnL q_ownC q_fl1 q_fl2 q_fl3 q_fl4 q_ch1 q_ch11 q_ch12 q_ch13 headPu q_fo q_to
end Go.Vx

/- Lists and whole numbers in plain Lean, as the proofs of this seat need them. -/
/- Lists and whole numbers in plain Lean, as the proofs of this seat need them. -/
set_option linter.all false
namespace Go.Proofs.Ytojaibhjfeojjaa
open Go Go.Vx

theorem w6_raw {x : Int} (h1 : -9223372036854775808 ≤ x) (h2 : x ≤ 9223372036854775807) : IntKind.i64.wrap x = x := IntWalk.i64_in x (by omega)
theorem w_succ {i n : Nat} (h : i < n) (hn : n ≤ 9223372036854775807) : IntKind.i64.wrap ((i : Int) + 1) = ((i + 1 : Nat) : Int) := by
  rw [IntWalk.i64_in _ (by omega)]; simp
theorem getD_mem {α : Type} [Inhabited α] {l : List α} {i : Nat} (h : i < l.length) : l.getD i default ∈ l := by
  rw [List.getD_eq_getElem?_getD, List.getElem?_eq_getElem h]; exact List.getElem_mem h
theorem mem_getD {α : Type} [Inhabited α] {l : List α} {x : α} (h : x ∈ l) : ∃ i, i < l.length ∧ l.getD i default = x := by
  obtain ⟨j, hj, rfl⟩ := List.getElem_of_mem h
  exact ⟨j, hj, by rw [List.getD_eq_getElem?_getD, List.getElem?_eq_getElem hj]; rfl⟩
theorem take_full {α : Type} {l : List α} {i : Nat} (h : l.length ≤ i) : l.take i = l := List.take_of_length_le h
theorem take_succ_eq {α : Type} [Inhabited α] {l : List α} {i : Nat} (h : i < l.length) : l.take (i + 1) = l.take i ++ [l.getD i default] := by
  rw [List.take_add_one, List.getD_eq_getElem?_getD, List.getElem?_eq_getElem h]; rfl
theorem foldl_take_succ {α β : Type} [Inhabited α] {l : List α} {f : β → α → β} {b : β} {i : Nat} (h : i < l.length) : (l.take (i + 1)).foldl f b = f ((l.take i).foldl f b) (l.getD i default) := by
  rw [take_succ_eq h, List.foldl_append]
  rfl
theorem list_ext {α : Type} [Inhabited α] {a b : List α} (h : a.length = b.length) (hh : ∀ i, i < a.length → a.getD i default = b.getD i default) : a = b := by
  refine List.ext_getElem h fun i h1 h2 => ?_
  have := hh i h1
  rwa [List.getD_eq_getElem?_getD, List.getD_eq_getElem?_getD, List.getElem?_eq_getElem h1, List.getElem?_eq_getElem h2] at this

def noC : CRes := .pre False (.fin .junk [])
def trueC : Ctr := { alias := false, of := fun a => match a with
  | [] => .fin (.bool true) []
  | _ => noC }

/-- A list came in. -/
def lsP {α : Type} [Inhabited α] (size : Nat) (e : α → List SV) (n sz : Nat) (get : Nat → List SV) (l : List α) : Prop := sz = size ∧ n = l.length ∧ ∀ k, k < n → leXL (get k) (e (l.getD k default))
theorem lsP_self {α : Type} [Inhabited α] {size : Nat} {e : α → List SV} {l : List α} : lsP size e l.length size (fun k => e (l.getD k default)) l := ⟨rfl, rfl, fun k _ => leXL_self _⟩

def enc1 (x : Int) : List SV := [.int .i64 x]
theorem maxLen_eq : maxLen = 9223372036854775807 := by decide

end Go.Proofs.Ytojaibhjfeojjaa

/- Layouts in plain Lean: what the functions compute. -/
/- Layouts in plain Lean: what the functions compute. -/
set_option linter.all false
namespace Go.Proofs.Ytojaibhjfeojjaa
open Go Go.Vx

structure Brd where
  w : Int
  d : Int
  c : Int
  a : Int
  s : Int
  wk : List (Int × Int)
instance : Inhabited Brd := ⟨⟨0, 0, 0, 0, 0, []⟩⟩
structure Std where
  x : Int
  y : Int
  r : Int
  h : Int
  deriving DecidableEq
instance : Inhabited Std := ⟨⟨0, 0, 0, 0⟩⟩

def outF (n lo hi : Int) : Bool := decide (n < lo) || decide (hi < n)
def placeF (p : Int × Int) : Bool := outF p.1 (-10000000) 20000000 || outF p.2 (-10000000) 20000000
def wrongF (b : Brd) : Bool := outF b.w 1 10000000 || outF b.d 1 10000000 || outF b.c 0 1000000 || outF b.s 0 1000000 || outF b.a 1 10000000 || b.wk.any placeF
def footF (r h : Int) : Bool := outF r 1 1000000 || outF h 1 12000000
def pipeF (p : Std) : Bool := footF p.r p.h || outF p.x 0 10000000 || outF p.y 0 10000000
def chkF (b : Brd) (l : List Std) : Int := if 8 < b.wk.length ∨ 200 < l.length then 3 else if wrongF b || l.any pipeF then 2 else 0

/-- What Check has seen. -/
def okB (b : Brd) : Prop := (1 ≤ b.w ∧ b.w ≤ 10000000) ∧ (1 ≤ b.d ∧ b.d ≤ 10000000) ∧ (0 ≤ b.c ∧ b.c ≤ 1000000) ∧ (0 ≤ b.s ∧ b.s ≤ 1000000) ∧ (1 ≤ b.a ∧ b.a ≤ 10000000) ∧ b.wk.length ≤ 8 ∧ ∀ p ∈ b.wk, (-10000000 ≤ p.1 ∧ p.1 ≤ 20000000) ∧ (-10000000 ≤ p.2 ∧ p.2 ≤ 20000000)
def okP (p : Std) : Prop := (1 ≤ p.r ∧ p.r ≤ 1000000) ∧ (1 ≤ p.h ∧ p.h ≤ 12000000) ∧ (0 ≤ p.x ∧ p.x ≤ 10000000) ∧ (0 ≤ p.y ∧ p.y ≤ 10000000)
theorem outF_no {n lo hi : Int} : outF n lo hi = false ↔ lo ≤ n ∧ n ≤ hi := by
  simp only [outF, Bool.or_eq_false_iff, decide_eq_false_iff_not]; omega
theorem wrongF_no {b : Brd} (hl : b.wk.length ≤ 8) (h : wrongF b = false) : okB b := by
  simp only [wrongF, Bool.or_eq_false_iff, outF_no, List.any_eq_false, placeF] at h
  obtain ⟨⟨⟨⟨⟨h1, h2⟩, h3⟩, h4⟩, h5⟩, h6⟩ := h
  refine ⟨h1, h2, h3, h4, h5, hl, fun p hp => ?_⟩
  have := h6 p hp
  rw [Bool.not_eq_true, Bool.or_eq_false_iff, outF_no, outF_no] at this
  exact this
theorem pipeF_no {p : Std} (h : pipeF p = false) : okP p := by
  simp only [pipeF, footF, Bool.or_eq_false_iff, outF_no] at h
  exact ⟨h.1.1.1, h.1.1.2, h.1.2, h.2⟩
theorem chkF_ok {b : Brd} {l : List Std} (h : chkF b l = 0) : okB b ∧ (∀ p ∈ l, okP p) ∧ l.length ≤ 200 := by
  unfold chkF at h
  split at h
  · cases h
  · split at h
    · cases h
    · rename_i h1 h2
      rw [Bool.not_eq_true, Bool.or_eq_false_iff] at h2
      refine ⟨wrongF_no (by omega) h2.1, fun p hp => pipeF_no ?_, by omega⟩
      have := List.any_eq_false.1 h2.2 p hp
      simpa using this

def sqF (x y : Int) : Int := x * x + y * y
def offF (b : Brd) (p : Std) : Bool := outF p.x p.r (b.w - p.r) || outF p.y p.r (b.d - p.r)
def nearF (b : Brd) (p q : Std) : Bool := decide (sqF (p.x - q.x) (p.y - q.y) < (p.r + q.r + b.c) * (p.r + q.r + b.c))
def twiceF (b : Brd) (l : List Std) : Bool := (List.range l.length).any fun i => (l.take i).any (nearF b (l.getD i default))
def standF (b : Brd) (l : List Std) : Int := if l.any (offF b) then 7 else if twiceF b l then 8 else 0
def checkF (b : Brd) (l : List Std) : Int := if chkF b l ≠ 0 then chkF b l else standF b l

def blkF (x y u v r : Int) : Bool :=
  if x * u + y * v ≤ 0 then decide (sqF u v < r * r) else if sqF x y ≤ x * u + y * v then decide (sqF (u - x) (v - y) < r * r)
  else decide ((x * v - y * u) * (x * v - y * u) < r * r * sqF x y)
def hitF (b : Brd) (p : Std) (w : Int × Int) (q : Std) : Bool := decide (p.h < q.h) && blkF (p.x - w.1) (p.y - w.2) (q.x - w.1) (q.y - w.2) (q.r + b.s)
def reachF (b : Brd) (l : List Std) (w : Int × Int) (p : Std) : Bool := !decide ((b.a + p.r) * (b.a + p.r) < sqF (p.x - w.1) (p.y - w.2)) && !l.any (hitF b p w)
def reachL (b : Brd) (l : List Std) (p : Std) : List Nat := (List.range b.wk.length).filter fun k => reachF b l (b.wk.getD k default) p
def reachR (b : Brd) (l : List Std) (i : Int) : List Nat × Int := if chkF b l ≠ 0 then ([], chkF b l) else if i < 0 ∨ (l.length : Int) ≤ i then ([], 4) else (reachL b l (l.getD i.toNat default), 0)
def blockedL (b : Brd) (l : List Std) : List Nat := (List.range l.length).filter fun i => !b.wk.any fun w => reachF b l w (l.getD i default)
def blockedR (b : Brd) (l : List Std) : List Nat × Int := if chkF b l ≠ 0 then ([], chkF b l) else (blockedL b l, 0)
def acceptR (b : Brd) (l : List Std) : Bool × Int := if chkF b l ≠ 0 then (false, chkF b l) else (decide (standF b l = 0) && decide ((blockedL b l).length = 0), 0)

/-! ### Rows -/

abbrev Ft := Int × Int
structure Plan where
  depth : Int
  rows : Int
  first : Int
  is : Bool
instance : Inhabited Plan := ⟨⟨0, 0, 0, false⟩⟩

def betterF (p out : Plan) : Bool := !out.is || decide (p.depth < out.depth) || (decide (p.depth = out.depth) && decide (p.rows < out.rows))
def candF (b : Brd) (deep : Int) (rest : Plan) (k : Nat) : Plan := ⟨deep + rest.depth + (if 0 < rest.rows then b.c else 0), 1 + rest.rows, (k : Int) + 1, true⟩
/-- The best first row: what is left of the pipes, the plans behind each of them. -/
def bestG (b : Brd) : List Ft → List Plan → Int → Int → Nat → Plan → Plan
  | [], _, _, _, _, out => out
  | f :: l, ps, wide, deep, k, out =>
    if b.w < wide + (b.c + 2 * f.1) then out else
      bestG b l ps.tail (wide + (b.c + 2 * f.1)) (max deep (2 * f.1)) (k + 1)
        (if (ps.headD default).is = false then out else if betterF (candF b (max deep (2 * f.1)) (ps.headD default) k) out then candF b (max deep (2 * f.1)) (ps.headD default) k else out)
def bestF (b : Brd) (l : List Ft) (ps : List Plan) : Plan := bestG b l ps (-b.c) 0 0 ⟨0, 0, 0, false⟩
def plansF (b : Brd) : List Ft → List Plan
  | [] => [⟨0, 0, 0, true⟩]
  | f :: l => bestF b (f :: l) (plansF b l) :: plansF b l
def headP (b : Brd) (l : List Ft) : Plan := (plansF b l).headD default
def mostF (l : List Ft) : Int := l.foldl (fun m f => max m f.1) 0
/-- A row's pipes. -/
def rowF (b : Brd) (y : Int) : List Ft → Int → List Std
  | [], _ => []
  | f :: l, x => ⟨x + f.1, y, f.1, f.2⟩ :: rowF b y l (x + (2 * f.1 + b.c))
/-- The pipes of a division at their places. -/
def placeL (b : Brd) : List Nat → List Ft → Int → List Std
  | [], _, _ => []
  | k :: ks, l, y => rowF b (y + mostF (l.take k)) (l.take k) 0 ++ placeL b ks (l.drop k) (y + (2 * mostF (l.take k) + b.c))
/-- The numbers of pipes in the best rows. -/
def divG (b : Brd) : Nat → List Ft → List Nat
  | 0, _ => []
  | n + 1, l => if l.length = 0 then [] else (headP b l).first.toNat :: divG b n (l.drop (headP b l).first.toNat)
def divL (b : Brd) (l : List Ft) : List Nat := divG b l.length l
def askF (b : Brd) (l : List Ft) : Int := if 8 < b.wk.length ∨ 200 < l.length then 3 else if wrongF b || l.any (fun f => footF f.1 f.2) then 2 else 0
def rowsR (b : Brd) (l : List Ft) : List Std × Int := if askF b l ≠ 0 then ([], askF b l) else if (headP b l).is = false ∨ b.d < (headP b l).depth then ([], 4) else (placeL b (divL b l) l 0, 0)

/-- From 'first' on, each 'step'-th number: so many. -/
def progL (first step c : Nat) : List Nat := (List.range c).map fun t => first + t * step
/-- .. those below n. -/
def classL (n first step : Nat) : List Nat := progL first step ((n - first + step - 1) / step)
def orderL (n kind : Nat) : List Nat :=
  if kind = 1 then classL n 0 1 else if kind = 2 then classL n 0 2 ++ (classL n 1 2).reverse else if kind = 3 then (classL n 0 2).reverse ++ classL n 1 2
  else ((classL n 0 4 ++ classL n 1 4) ++ classL n 2 4) ++ classL n 3 4
def orderR (n kind : Int) : List Nat × Int := if n < 0 ∨ 200 < n ∨ kind < 1 ∨ 4 < kind then ([], 2) else (orderL n.toNat kind.toNat, 0)
end Go.Proofs.Ytojaibhjfeojjaa

/- Layouts, walked: what a board and pipes must be; Check. -/
/- Layouts, walked: what a board and pipes must be; Check. -/
set_option linter.all false
namespace Go.Proofs.Ytojaibhjfeojjaa
open Go Go.Vx
set_option maxRecDepth 100000
set_option maxHeartbeats 4000000

def encS (p : Std) : List SV := [.int .i64 p.x, .int .i64 p.y, .int .i64 p.r, .int .i64 p.h]
def encT (p : Int × Int) : List SV := [.int .i64 p.1, .int .i64 p.2]
def brdP (b : Brd) (w d c a s : Int) (n sz : Nat) (get : Nat → List SV) : Prop := (w = b.w ∧ d = b.d ∧ c = b.c ∧ a = b.a ∧ s = b.s) ∧ lsP 2 encT n sz get b.wk
def encB (t z : Bool) (b : Brd) : List SV := [.int .i64 b.w, .int .i64 b.d, .int .i64 b.c, .int .i64 b.a, .int .i64 b.s, .vs t z b.wk.length 2 (fun k => encT (b.wk.getD k default))]
theorem brd_le {b : Brd} {w d c a s : Int} {t z : Bool} {n sz : Nat} {get : Nat → List SV} (h : brdP b w d c a s n sz get) :
    le 0 0 (.agg [.int .i64 w, .int .i64 d, .int .i64 c, .int .i64 a, .int .i64 s, .vs t z n sz get]) (.agg (encB t z b)) := by
  obtain ⟨⟨rfl, rfl, rfl, rfl, rfl⟩, rfl, rfl, h⟩ := h
  simpa [encB, leL, le] using h
theorem brdP_self (b : Brd) : brdP b b.w b.d b.c b.a b.s b.wk.length 2 (fun k => encT (b.wk.getD k default)) := ⟨⟨rfl, rfl, rfl, rfl, rfl⟩, lsP_self⟩

def v57 : VF := { ntmps := 15, res := [.tmp 6], body :=
 (.seq (.region [u1 6 .mov [.cn (.bool false)]])
 (.seq (.region [u1 7 .mov [.tm 0],
 u1 8 .mov [.tm 1],
 u1 9 (.cmp .lss) [.tm 7, .tm 8],
 u1 10 .mov [.tm 9],
 u2 11 10 false .mov [.tm 0],
 u2 12 10 false .mov [.tm 2],
 u2 13 10 false (.cmp .gtr) [.tm 11, .tm 12],
 u1 14 .or [.tm 10, .tm 13],
 u1 6 .mov [.tm 14]])
 .ret)) }
theorem v57_is : vfunc Try.prog Try.f57 = some v57 := by kernel_rfl
def v33 : VF := { ntmps := 33, res := [.tmp 2], body :=
 (.seq (.region [u1 1 .box [.tm 0],
 u1 2 .mov [.cn (.bool false)]])
 (.seq (.region [u1 3 .mov [.cn (.fn (.func 56) [] [])]])
 (.seq (.region [u1 4 (.fieldAddr 0) [.tm 1],
 u1 5 (.load false 1) [.tm 4],
 u1 6 (.call 57) [.tm 5, .cn (.int .i64 1), .cn (.int .i64 10000000)],
 u1 7 .mov [.tm 6],
 u2 8 7 false (.fieldAddr 1) [.tm 1],
 u2 9 7 false (.load false 1) [.tm 8],
 u2 10 7 false (.call 57) [.tm 9, .cn (.int .i64 1), .cn (.int .i64 10000000)],
 u1 11 .or [.tm 7, .tm 10],
 u1 12 .mov [.tm 11],
 u2 13 12 false (.fieldAddr 2) [.tm 1],
 u2 14 12 false (.load false 1) [.tm 13],
 u2 15 12 false (.call 57) [.tm 14, .cn (.int .i64 0), .cn (.int .i64 1000000)],
 u1 16 .or [.tm 12, .tm 15],
 u1 17 .mov [.tm 16],
 u2 18 17 false (.fieldAddr 4) [.tm 1],
 u2 19 17 false (.load false 1) [.tm 18],
 u2 20 17 false (.call 57) [.tm 19, .cn (.int .i64 0), .cn (.int .i64 1000000)],
 u1 21 .or [.tm 17, .tm 20],
 u1 22 .mov [.tm 21],
 u2 23 22 false (.fieldAddr 3) [.tm 1],
 u2 24 22 false (.load false 1) [.tm 23],
 u2 25 22 false (.call 57) [.tm 24, .cn (.int .i64 1), .cn (.int .i64 10000000)],
 u1 26 .or [.tm 22, .tm 25],
 u1 27 .mov [.tm 26],
 u2 28 27 false (.fieldAddr 5) [.tm 1],
 u2 29 27 false (.load false 1) [.tm 28],
 u2 30 27 false .mov [.tm 3],
 u2 31 27 false (.call 58) [.tm 29, .tm 30],
 u1 32 .or [.tm 27, .tm 31],
 u1 2 .mov [.tm 32]])
 .ret))) }
theorem v33_is : vfunc Try.prog Try.f33 = some v33 := by kernel_rfl
def v56 : VF := { ntmps := 11, res := [.tmp 2], body :=
 (.seq (.region [u1 1 .box [.tm 0],
 u1 2 .mov [.cn (.bool false)]])
 (.seq (.region [u1 3 (.fieldAddr 0) [.tm 1],
 u1 4 (.load false 1) [.tm 3],
 u1 5 (.call 57) [.tm 4, .cn (.int .i64 (-10000000)), .cn (.int .i64 20000000)],
 u1 6 .mov [.tm 5],
 u2 7 6 false (.fieldAddr 1) [.tm 1],
 u2 8 6 false (.load false 1) [.tm 7],
 u2 9 6 false (.call 57) [.tm 8, .cn (.int .i64 (-10000000)), .cn (.int .i64 20000000)],
 u1 10 .or [.tm 6, .tm 9],
 u1 2 .mov [.tm 10]])
 .ret)) }
theorem v56_is : vfunc Try.prog Try.f56 = some v56 := by kernel_rfl
def v35 : VF := { ntmps := 11, res := [.tmp 2], body :=
 (.seq (.region [u1 1 .box [.tm 0],
 u1 2 .mov [.cn (.bool false)]])
 (.seq (.region [u1 3 (.fieldAddr 0) [.tm 1],
 u1 4 (.load false 1) [.tm 3],
 u1 5 (.call 57) [.tm 4, .cn (.int .i64 1), .cn (.int .i64 1000000)],
 u1 6 .mov [.tm 5],
 u2 7 6 false (.fieldAddr 1) [.tm 1],
 u2 8 6 false (.load false 1) [.tm 7],
 u2 9 6 false (.call 57) [.tm 8, .cn (.int .i64 1), .cn (.int .i64 12000000)],
 u1 10 .or [.tm 6, .tm 9],
 u1 2 .mov [.tm 10]])
 .ret)) }
theorem v35_is : vfunc Try.prog Try.f35 = some v35 := by kernel_rfl
def v44 : VF := { ntmps := 24, res := [.tmp 4], body :=
 (.seq (.region [u1 2 .box [.tm 0],
 u1 4 .mov [.cn (.int .i64 0)]])
 (.seq (.region [u1 5 .mov [.cn (.fn (.func 62) [] [])]])
 (.seq (.block 0 (.seq (.region [u1 7 (.fieldAddr 5) [.tm 2],
 u1 8 (.load false 1) [.tm 7],
 u1 9 .len [.tm 8],
 u1 10 (.cmp .gtr) [.tm 9, .cn (.int .i64 8)],
 u1 11 .mov [.tm 10],
 u2 12 11 false .mov [.tm 1],
 u2 13 11 false .len [.tm 12],
 u2 14 11 false (.cmp .gtr) [.tm 13, .cn (.int .i64 200)],
 u1 15 .or [.tm 11, .tm 14],
 u1 6 .mov [.tm 15]])
 (.cond (.tm 6) (.seq (.region [u1 4 .mov [.cn (.int .i64 3)]])
 .ret)
  (.seq (.region [u1 17 (.load true 6) [.tm 2],
 u1 18 (.call 33) [.tm 17],
 u1 19 .mov [.tm 18],
 u2 20 19 false .mov [.tm 1],
 u2 21 19 false .mov [.tm 5],
 u2 22 19 false (.call 63) [.tm 20, .tm 21],
 u1 23 .or [.tm 19, .tm 22],
 u1 16 .mov [.tm 23]])
 (.cond (.tm 16) (.seq (.region [u1 4 .mov [.cn (.int .i64 2)]])
 .ret)
  .skip)))))
 (.seq (.region [u1 4 .mov [.cn (.int .i64 0)]])
 .ret)))) }
theorem v44_is : vfunc Try.prog Try.f44 = some v44 := by kernel_rfl
def v62 : VF := { ntmps := 19, res := [.tmp 2], body :=
 (.seq (.region [u1 1 .box [.tm 0],
 u1 2 .mov [.cn (.bool false)]])
 (.seq (.region [u1 3 (.fieldAddr 2) [.tm 1],
 u1 4 (.load false 1) [.tm 3],
 u1 5 (.fieldAddr 3) [.tm 1],
 u1 6 (.load false 1) [.tm 5],
 u1 7 (.build [(.int .i64 0), (.int .i64 0)] [(0, 1), (1, 1)]) [.tm 4, .tm 6],
 u1 8 (.call 35) [.tm 7],
 u1 9 .mov [.tm 8],
 u2 10 9 false (.fieldAddr 0) [.tm 1],
 u2 11 9 false (.load false 1) [.tm 10],
 u2 12 9 false (.call 57) [.tm 11, .cn (.int .i64 0), .cn (.int .i64 10000000)],
 u1 13 .or [.tm 9, .tm 12],
 u1 14 .mov [.tm 13],
 u2 15 14 false (.fieldAddr 1) [.tm 1],
 u2 16 14 false (.load false 1) [.tm 15],
 u2 17 14 false (.call 57) [.tm 16, .cn (.int .i64 0), .cn (.int .i64 10000000)],
 u1 18 .or [.tm 14, .tm 17],
 u1 2 .mov [.tm 18]])
 .ret)) }
theorem v62_is : vfunc Try.prog Try.f62 = some v62 := by kernel_rfl
def v58 : VF := { ntmps := 9, res := [.tmp 4], body :=
 (.seq (.region [u1 4 .mov [.cn (.bool false)]])
 (.seq (.region [u1 5 .mov [.tm 0],
 u1 6 .mov [.tm 1],
 u1 7 (.call 75) [.tm 5, .tm 6],
 u1 8 (.cmp .geq) [.tm 7, .cn (.int .i64 0)],
 u1 4 .mov [.tm 8]])
 .ret)) }
theorem v58_is : vfunc Try.prog Try.f58 = some v58 := by kernel_rfl
def v75 : VF := { ntmps := 19, res := [.tmp 4], body :=
 (.seq (.region [u1 4 .mov [.cn (.int .i64 0)]])
 (.seq (.seq (.region [u1 6 .mov [.tm 0],
 u1 7 .len [.tm 6],
 u1 8 .mov [.cn (.int .i64 0)]])
 (.block 0 (.loop (.seq (.region [u1 9 (.cmp .lss) [.tm 8, .tm 7]])
 (.seq (.cond (.tm 9) .skip
  (.exit 0))
 (.seq (.block 1 (.seq (.region [u1 10 .mov [.tm 8],
 u1 5 .mov [.tm 10]])
 (.seq (.region [u1 11 .mov [.tm 1],
 u1 12 .mov [.tm 0],
 u1 13 .mov [.tm 5],
 u1 14 (.idxAddr 2) [.tm 12, .tm 13],
 u1 15 (.load true 2) [.tm 14],
 u1 16 .callv [.tm 11, .tm 15]])
 (.cond (.tm 16) (.seq (.region [u1 17 .mov [.tm 5],
 u1 4 .mov [.tm 17]])
 .ret)
  .skip))))
 (.region [u1 18 (.ari .add) [.tm 8, .cn (.int .i64 1)],
 u1 8 .mov [.tm 18]])))))))
 (.seq (.region [u1 4 .mov [.cn (.int .i64 (-1))]])
 .ret))) }
theorem v75_is : vfunc Try.prog Try.f75 = some v75 := by kernel_rfl
def v63 : VF := { ntmps := 9, res := [.tmp 4], body :=
 (.seq (.region [u1 4 .mov [.cn (.bool false)]])
 (.seq (.region [u1 5 .mov [.tm 0],
 u1 6 .mov [.tm 1],
 u1 7 (.call 76) [.tm 5, .tm 6],
 u1 8 (.cmp .geq) [.tm 7, .cn (.int .i64 0)],
 u1 4 .mov [.tm 8]])
 .ret)) }
theorem v63_is : vfunc Try.prog Try.f63 = some v63 := by kernel_rfl
def v76 : VF := { ntmps := 19, res := [.tmp 4], body :=
 (.seq (.region [u1 4 .mov [.cn (.int .i64 0)]])
 (.seq (.seq (.region [u1 6 .mov [.tm 0],
 u1 7 .len [.tm 6],
 u1 8 .mov [.cn (.int .i64 0)]])
 (.block 0 (.loop (.seq (.region [u1 9 (.cmp .lss) [.tm 8, .tm 7]])
 (.seq (.cond (.tm 9) .skip
  (.exit 0))
 (.seq (.block 1 (.seq (.region [u1 10 .mov [.tm 8],
 u1 5 .mov [.tm 10]])
 (.seq (.region [u1 11 .mov [.tm 1],
 u1 12 .mov [.tm 0],
 u1 13 .mov [.tm 5],
 u1 14 (.idxAddr 4) [.tm 12, .tm 13],
 u1 15 (.load true 4) [.tm 14],
 u1 16 .callv [.tm 11, .tm 15]])
 (.cond (.tm 16) (.seq (.region [u1 17 .mov [.tm 5],
 u1 4 .mov [.tm 17]])
 .ret)
  .skip))))
 (.region [u1 18 (.ari .add) [.tm 8, .cn (.int .i64 1)],
 u1 8 .mov [.tm 18]])))))))
 (.seq (.region [u1 4 .mov [.cn (.int .i64 (-1))]])
 .ret))) }
theorem v76_is : vfunc Try.prog Try.f76 = some v76 := by kernel_rfl
def v34 : VF := { ntmps := 9, res := [.tmp 4], body :=
 (.seq (.region [u1 4 .mov [.cn (.bool false)]])
 (.seq (.region [u1 5 .mov [.tm 0],
 u1 6 .mov [.tm 1],
 u1 7 (.call 59) [.tm 5, .tm 6],
 u1 8 (.cmp .geq) [.tm 7, .cn (.int .i64 0)],
 u1 4 .mov [.tm 8]])
 .ret)) }
theorem v34_is : vfunc Try.prog Try.f34 = some v34 := by kernel_rfl
def v59 : VF := { ntmps := 19, res := [.tmp 4], body :=
 (.seq (.region [u1 4 .mov [.cn (.int .i64 0)]])
 (.seq (.seq (.region [u1 6 .mov [.tm 0],
 u1 7 .len [.tm 6],
 u1 8 .mov [.cn (.int .i64 0)]])
 (.block 0 (.loop (.seq (.region [u1 9 (.cmp .lss) [.tm 8, .tm 7]])
 (.seq (.cond (.tm 9) .skip
  (.exit 0))
 (.seq (.block 1 (.seq (.region [u1 10 .mov [.tm 8],
 u1 5 .mov [.tm 10]])
 (.seq (.region [u1 11 .mov [.tm 1],
 u1 12 .mov [.tm 0],
 u1 13 .mov [.tm 5],
 u1 14 (.idxAddr 2) [.tm 12, .tm 13],
 u1 15 (.load true 2) [.tm 14],
 u1 16 .callv [.tm 11, .tm 15]])
 (.cond (.tm 16) (.seq (.region [u1 17 .mov [.tm 5],
 u1 4 .mov [.tm 17]])
 .ret)
  .skip))))
 (.region [u1 18 (.ari .add) [.tm 8, .cn (.int .i64 1)],
 u1 8 .mov [.tm 18]])))))))
 (.seq (.region [u1 4 .mov [.cn (.int .i64 (-1))]])
 .ret))) }
theorem v59_is : vfunc Try.prog Try.f59 = some v59 := by kernel_rfl


def outC : Ctr := { alias := false, of := fun l => match l with
  | [.int .i64 n, .int .i64 lo, .int .i64 hi] => .fin (.bool (outF n lo hi)) []
  | _ => noC }
def E0 : Env := { ct := fun _ => none, fn := fun _ => none, meth := fun _ _ => none }
theorem E0_ok : EnvOk Try.prog E0 := by
  refine ⟨fun f c h => ?_, fun f vf h => ?_, (fun _ _ _ h => by cases h), by kernel_rfl⟩
  · cases h
  · cases h

theorem out_ok : outC.ok Try.prog 57 := by
  refine contract Try.func57 v57_is E0_ok 100 outC fun args k h => ⟨args, ?_⟩
  simp only [outC] at h
  split at h
  · refine ⟨by simp [leL, le], ?_⟩
    dsimp only [v57, go_sem, Option.bind, Option.map, List.append_nil, Nat.beq, List.cons_append, List.nil_append, List.append_eq, List.map_cons, List.map_nil, ite_self, reduceIte]
    simp only [true_and, and_true, imp_self, implies_true, decide_eq_true_eq, decide_eq_false_iff_not, Nat.reduceAdd, Nat.reduceLeDiff, Bool.not_not, reduceCtorEq, false_imp_iff, Bool.not_eq_true', Bool.not_eq_false', Bool.false_eq_true, and_self, forall_const, ne_eq, not_false_eq_true, Nat.reduceEqDiff]
    have h : k _ [] := h
    unfold outF at h
    exact ans_bool h
  · exact h.1.elim

def ptC : Ctr := { alias := false, of := fun l => match l with
  | [.agg [.int .i64 x, .int .i64 y]] => .fin (.bool (placeF (x, y))) []
  | _ => noC }
def ftC : Ctr := { alias := false, of := fun l => match l with
  | [.agg [.int .i64 r, .int .i64 h]] => .fin (.bool (footF r h)) []
  | _ => noC }
def ppC : Ctr := { alias := false, of := fun l => match l with
  | [.agg [.int .i64 x, .int .i64 y, .int .i64 r, .int .i64 h]] => .fin (.bool (pipeF ⟨x, y, r, h⟩)) []
  | _ => noC }
def E1 : Env := { ct := fun n => match n with | 57 => some outC | _ => none, fn := fun _ => none, meth := fun _ _ => none }
theorem E1_ct57 : E1.ct 57 = some outC := rfl
theorem E1_ok : EnvOk Try.prog E1 := by
  refine ⟨fun f c h => ?_, fun f vf h => ?_, (fun _ _ _ h => by cases h), by kernel_rfl⟩
  · simp only [E1] at h
    split at h
    · cases h; exact ⟨out_ok, Try.f57, Try.func57, by kernel_rfl, by kernel_rfl⟩
    · cases h
  · cases h

theorem pt_ok : ptC.ok Try.prog 56 := by
  refine contract Try.func56 v56_is E1_ok 100 ptC fun args k h => ⟨args, ?_⟩
  simp only [ptC] at h
  split at h
  · refine ⟨by simp [leL, le], ?_⟩
    dsimp only [v56, E1_ct57, outC, go_sem, Option.bind, Option.map, List.append_nil, Nat.beq, List.cons_append, List.nil_append, List.append_eq, List.map_cons, List.map_nil, ite_self, reduceIte]
    simp only [true_and, and_true, imp_self, implies_true, decide_eq_true_eq, decide_eq_false_iff_not, Nat.reduceAdd, Nat.reduceLeDiff, Bool.not_not, reduceCtorEq, false_imp_iff, Bool.not_eq_true', Bool.not_eq_false', Bool.false_eq_true, and_self, forall_const, ne_eq, not_false_eq_true, Nat.reduceEqDiff]
    have h : k _ [] := h
    exact ans_bool h
  · exact h.1.elim
theorem ft_ok : ftC.ok Try.prog 35 := by
  refine contract Try.func35 v35_is E1_ok 100 ftC fun args k h => ⟨args, ?_⟩
  simp only [ftC] at h
  split at h
  · refine ⟨by simp [leL, le], ?_⟩
    dsimp only [v35, E1_ct57, outC, go_sem, Option.bind, Option.map, List.append_nil, Nat.beq, List.cons_append, List.nil_append, List.append_eq, List.map_cons, List.map_nil, ite_self, reduceIte]
    simp only [true_and, and_true, imp_self, implies_true, decide_eq_true_eq, decide_eq_false_iff_not, Nat.reduceAdd, Nat.reduceLeDiff, Bool.not_not, reduceCtorEq, false_imp_iff, Bool.not_eq_true', Bool.not_eq_false', Bool.false_eq_true, and_self, forall_const, ne_eq, not_false_eq_true, Nat.reduceEqDiff]
    have h : k _ [] := h
    exact ans_bool h
  · exact h.1.elim
def E2 : Env := { ct := fun n => match n with | 57 => some outC | 35 => some ftC | _ => none, fn := fun _ => none, meth := fun _ _ => none }
theorem E2_ct57 : E2.ct 57 = some outC := rfl
theorem E2_ct35 : E2.ct 35 = some ftC := rfl
theorem E2_ok : EnvOk Try.prog E2 := by
  refine ⟨fun f c h => ?_, fun f vf h => ?_, (fun _ _ _ h => by cases h), by kernel_rfl⟩
  · simp only [E2] at h
    split at h
    · cases h; exact ⟨out_ok, Try.f57, Try.func57, by kernel_rfl, by kernel_rfl⟩
    · cases h; exact ⟨ft_ok, Try.f35, Try.func35, by kernel_rfl, by kernel_rfl⟩
    · cases h
  · cases h

theorem pp_ok : ppC.ok Try.prog 62 := by
  refine contract Try.func62 v62_is E2_ok 100 ppC fun args k h => ⟨args, ?_⟩
  simp only [ppC] at h
  split at h
  · refine ⟨by simp [leL, le], ?_⟩
    dsimp only [v62, E2_ct57, E2_ct35, outC, ftC, go_sem, Option.bind, Option.map, List.append_nil, Nat.beq, List.cons_append, List.nil_append, List.append_eq, List.map_cons, List.map_nil, ite_self, reduceIte]
    simp only [true_and, and_true, imp_self, implies_true, decide_eq_true_eq, decide_eq_false_iff_not, Nat.reduceAdd, Nat.reduceLeDiff, Bool.not_not, reduceCtorEq, false_imp_iff, Bool.not_eq_true', Bool.not_eq_false', Bool.false_eq_true, and_self, forall_const, ne_eq, not_false_eq_true, Nat.reduceEqDiff]
    have h : k _ [] := h
    exact ans_bool h
  · exact h.1.elim

/-! ### Does a list contain .. -/

def footP (f : Int × Int) : Bool := footF f.1 f.2
/-- What the functions that are handed over compute. -/
def predT (g : Nat) (cap : List SV) (F : Int × Int → Bool) : Prop := g = 56 ∧ cap = [] ∧ F = placeF
def predF (g : Nat) (cap : List SV) (F : Int × Int → Bool) : Prop := g = 35 ∧ cap = [] ∧ F = footP
def predS (g : Nat) (cap : List SV) (F : Std → Bool) : Prop := g = 62 ∧ cap = [] ∧ F = pipeF
def anyC {α : Type} [Inhabited α] (size : Nat) (e : α → List SV) (P : Nat → List SV → (α → Bool) → Prop) : Ctr := { alias := false, of := fun l => match l with
  | [.vs _ _ n sz get, .fn (.func g) [] cap] => .ex (List α) fun l => .ex (α → Bool) fun F => .pre (lsP size e n sz get l ∧ l.length ≤ 1000000000000 ∧ P g cap F) (.fin (.bool (l.any F)) [])
  | _ => noC }
def anyTC : Ctr := anyC 2 encT predT
def anyFC : Ctr := anyC 2 encT predF
def anySC : Ctr := anyC 4 encS predS
def E3 : Env := { ct := fun n => match n with | 56 => some ptC | _ => none, fn := fun n => match n with | 75 => some v75 | _ => none, meth := fun _ _ => none }
theorem E3_ct56 : E3.ct 56 = some ptC := rfl
theorem E3_ct75 : E3.ct 75 = none := rfl
theorem E3_fn75 : E3.fn 75 = some v75 := rfl
theorem E3_ok : EnvOk Try.prog E3 := by
  refine ⟨fun f c h => ?_, fun f vf h => ?_, (fun _ _ _ h => by cases h), by kernel_rfl⟩
  · simp only [E3] at h
    split at h
    · cases h; exact ⟨pt_ok, Try.f56, Try.func56, by kernel_rfl, by kernel_rfl⟩
    · cases h
  · simp only [E3] at h
    split at h
    · cases h; exact ⟨Try.f75, Try.func75, v75_is, Try.f75, Try.func75, by kernel_rfl, by kernel_rfl⟩
    · cases h

theorem anyT_ok : (anyC 2 encT predT).ok Try.prog 58 := by
  refine contract Try.func58 v58_is E3_ok 100 (anyC 2 encT predT) fun args k h => ?_
  simp only [anyC] at h
  split at h
  · rename_i t z n sz get g cap
    obtain ⟨l, F, ⟨⟨rfl, rfl, hg⟩, hl, rfl, rfl, rfl⟩, h⟩ := h
    refine ⟨[.vs t z l.length 2 (fun k => encT (l.getD k default)), .fn (.func 56) [] []], ⟨by simpa [le] using hg, by simp [le_fn, bndL], trivial⟩, ?_⟩
    have h : k (.bool (l.any placeF)) [] := h
    dsimp only [v58, v75, E3_ct75, E3_fn75, encT, go_sem, Option.bind, Option.map, List.append_nil, Nat.beq, List.cons_append, List.nil_append, List.append_eq, List.map_cons, List.map_nil, ite_self, reduceIte]
    simp only [true_and, and_true, imp_self, implies_true, decide_eq_true_eq, decide_eq_false_iff_not, Nat.reduceAdd, Nat.reduceLeDiff, Bool.not_not, reduceCtorEq, false_imp_iff, Bool.not_eq_true', Bool.not_eq_false', Bool.false_eq_true, and_self, forall_const, ne_eq, not_false_eq_true, Nat.reduceEqDiff]
    obtain ⟨F, hF⟩ : ∃ F, F = placeF := ⟨_, rfl⟩
    rw [← hF] at h
    refine Loop.keep [0, 0, 5, 0] Nat (fun i => [(8, .int .i64 i)]) (fun _ => []) [] (fun i => i ≤ l.length ∧ ∀ j, j < i → F (l.getD j default) = false) (fun i => l.length - i) ?_ ?_
    · refine ⟨0, ⟨Nat.zero_le _, fun j h => by omega⟩, ?_⟩
      dsimp only [go_sem, Option.bind, Option.map, List.append_nil, Nat.beq, List.cons_append, List.nil_append, List.append_eq, List.map_cons, List.map_nil, ite_self, reduceIte]
      simp only [leS_mk, leL_cons, leL_nil, le_junk, le_int, le_bool, le_nil, leLL_nil, leLL_cons, leH_cons, leH_nil, leH1_box, leH1_own, leH1_gone, le_vs, le_agg, le_tup, le_ptr, le_own, le_xp, le_fn, le_opt, le_val, le_elem, le_nil_own, le_nil_vs, leH_ghost, leL_chunk, leXL_id, bnd_int, bnd_bool, bnd_val, bnd_nil, bnd_junk, bnd_vs, bnd_xp, bnd_agg, bnd_tup, bnd_ptr, bnd_own, bnd_elem, bnd_fn, bnd_iface, bnd_opt, bndL_nil, bndL_cons, lenH_cons, lenH_nil, imp_self, implies_true, true_and, and_true]
      simp
    · rintro i ⟨hi, ha⟩
      dsimp only [E3_ct56, ptC, encT, Int.toNat_natCast, go_sem, Option.bind, Option.map, List.append_nil, Nat.beq, List.cons_append, List.nil_append, List.append_eq, List.map_cons, List.map_nil, ite_self, reduceIte]
      simp only [true_and, and_true, imp_self, implies_true, decide_eq_true_eq, decide_eq_false_iff_not, Nat.reduceAdd, Nat.reduceLeDiff, Bool.not_not, reduceCtorEq, false_imp_iff, Bool.not_eq_true', Bool.not_eq_false', Bool.false_eq_true, and_self, forall_const, ne_eq, not_false_eq_true, Nat.reduceEqDiff]
      simp only [show placeF (((l.getD i default).1, (l.getD i default).2)) = F (l.getD i default) by rw [hF]]
      refine ⟨fun hlt => ⟨⟨by omega, hlt⟩, fun hb => ?_, fun hb => ?_⟩, fun hge => ?_⟩
      · have e : l.any F = true := List.any_eq_true.2 ⟨_, getD_mem (by omega : i < l.length), hb⟩
        have e2 : decide (0 ≤ (i : Int)) = true := decide_eq_true (by omega)
        rw [e2]
        exact ans_bool (by rw [e] at h; exact h)
      · refine ⟨i + 1, ⟨by omega, fun j hj => ?_⟩, by omega, ?_⟩
        · rcases Nat.lt_or_ge j i with h' | h'
          · exact ha j h'
          · obtain rfl : j = i := by omega
            exact hb
        · simp only [w_succ (i := i) (n := l.length) (by omega) (by omega), leS_mk, leL_cons, leL_nil, le_junk, le_int, le_bool, le_nil, leLL_nil, leLL_cons, leH_cons, leH_nil, leH1_box, leH1_own, leH1_gone, le_vs, le_agg, le_tup, le_ptr, le_own, le_xp, le_fn, le_opt, le_val, le_elem, le_nil_own, le_nil_vs, leH_ghost, leL_chunk, leXL_id, bnd_int, bnd_bool, bnd_val, bnd_nil, bnd_junk, bnd_vs, bnd_xp, bnd_agg, bnd_tup, bnd_ptr, bnd_own, bnd_elem, bnd_fn, bnd_iface, bnd_opt, bndL_nil, bndL_cons, lenH_cons, lenH_nil, imp_self, implies_true, true_and, and_true] <;> simp
      · have e : l.any F = false := List.any_eq_false.2 fun x hx => by
          obtain ⟨j, hj, rfl⟩ := mem_getD hx
          rw [ha j (by omega)]; simp
        exact ans_bool (by rw [e] at h; exact h)
  · exact h.1.elim
def E4 : Env := { ct := fun n => match n with | 35 => some ftC | _ => none, fn := fun n => match n with | 59 => some v59 | _ => none, meth := fun _ _ => none }
theorem E4_ct35 : E4.ct 35 = some ftC := rfl
theorem E4_ct59 : E4.ct 59 = none := rfl
theorem E4_fn59 : E4.fn 59 = some v59 := rfl
theorem E4_ok : EnvOk Try.prog E4 := by
  refine ⟨fun f c h => ?_, fun f vf h => ?_, (fun _ _ _ h => by cases h), by kernel_rfl⟩
  · simp only [E4] at h
    split at h
    · cases h; exact ⟨ft_ok, Try.f35, Try.func35, by kernel_rfl, by kernel_rfl⟩
    · cases h
  · simp only [E4] at h
    split at h
    · cases h; exact ⟨Try.f59, Try.func59, v59_is, Try.f59, Try.func59, by kernel_rfl, by kernel_rfl⟩
    · cases h

theorem anyF_ok : (anyC 2 encT predF).ok Try.prog 34 := by
  refine contract Try.func34 v34_is E4_ok 100 (anyC 2 encT predF) fun args k h => ?_
  simp only [anyC] at h
  split at h
  · rename_i t z n sz get g cap
    obtain ⟨l, F, ⟨⟨rfl, rfl, hg⟩, hl, rfl, rfl, rfl⟩, h⟩ := h
    refine ⟨[.vs t z l.length 2 (fun k => encT (l.getD k default)), .fn (.func 35) [] []], ⟨by simpa [le] using hg, by simp [le_fn, bndL], trivial⟩, ?_⟩
    have h : k (.bool (l.any footP)) [] := h
    dsimp only [v34, v59, E4_ct59, E4_fn59, encT, go_sem, Option.bind, Option.map, List.append_nil, Nat.beq, List.cons_append, List.nil_append, List.append_eq, List.map_cons, List.map_nil, ite_self, reduceIte]
    simp only [true_and, and_true, imp_self, implies_true, decide_eq_true_eq, decide_eq_false_iff_not, Nat.reduceAdd, Nat.reduceLeDiff, Bool.not_not, reduceCtorEq, false_imp_iff, Bool.not_eq_true', Bool.not_eq_false', Bool.false_eq_true, and_self, forall_const, ne_eq, not_false_eq_true, Nat.reduceEqDiff]
    obtain ⟨F, hF⟩ : ∃ F, F = footP := ⟨_, rfl⟩
    rw [← hF] at h
    refine Loop.keep [0, 0, 5, 0] Nat (fun i => [(8, .int .i64 i)]) (fun _ => []) [] (fun i => i ≤ l.length ∧ ∀ j, j < i → F (l.getD j default) = false) (fun i => l.length - i) ?_ ?_
    · refine ⟨0, ⟨Nat.zero_le _, fun j h => by omega⟩, ?_⟩
      dsimp only [go_sem, Option.bind, Option.map, List.append_nil, Nat.beq, List.cons_append, List.nil_append, List.append_eq, List.map_cons, List.map_nil, ite_self, reduceIte]
      simp only [leS_mk, leL_cons, leL_nil, le_junk, le_int, le_bool, le_nil, leLL_nil, leLL_cons, leH_cons, leH_nil, leH1_box, leH1_own, leH1_gone, le_vs, le_agg, le_tup, le_ptr, le_own, le_xp, le_fn, le_opt, le_val, le_elem, le_nil_own, le_nil_vs, leH_ghost, leL_chunk, leXL_id, bnd_int, bnd_bool, bnd_val, bnd_nil, bnd_junk, bnd_vs, bnd_xp, bnd_agg, bnd_tup, bnd_ptr, bnd_own, bnd_elem, bnd_fn, bnd_iface, bnd_opt, bndL_nil, bndL_cons, lenH_cons, lenH_nil, imp_self, implies_true, true_and, and_true]
      simp
    · rintro i ⟨hi, ha⟩
      dsimp only [E4_ct35, ftC, encT, Int.toNat_natCast, go_sem, Option.bind, Option.map, List.append_nil, Nat.beq, List.cons_append, List.nil_append, List.append_eq, List.map_cons, List.map_nil, ite_self, reduceIte]
      simp only [true_and, and_true, imp_self, implies_true, decide_eq_true_eq, decide_eq_false_iff_not, Nat.reduceAdd, Nat.reduceLeDiff, Bool.not_not, reduceCtorEq, false_imp_iff, Bool.not_eq_true', Bool.not_eq_false', Bool.false_eq_true, and_self, forall_const, ne_eq, not_false_eq_true, Nat.reduceEqDiff]
      simp only [show footF (l.getD i default).1 (l.getD i default).2 = F (l.getD i default) by rw [hF]; rfl]
      refine ⟨fun hlt => ⟨⟨by omega, hlt⟩, fun hb => ?_, fun hb => ?_⟩, fun hge => ?_⟩
      · have e : l.any F = true := List.any_eq_true.2 ⟨_, getD_mem (by omega : i < l.length), hb⟩
        have e2 : decide (0 ≤ (i : Int)) = true := decide_eq_true (by omega)
        rw [e2]
        exact ans_bool (by rw [e] at h; exact h)
      · refine ⟨i + 1, ⟨by omega, fun j hj => ?_⟩, by omega, ?_⟩
        · rcases Nat.lt_or_ge j i with h' | h'
          · exact ha j h'
          · obtain rfl : j = i := by omega
            exact hb
        · simp only [w_succ (i := i) (n := l.length) (by omega) (by omega), leS_mk, leL_cons, leL_nil, le_junk, le_int, le_bool, le_nil, leLL_nil, leLL_cons, leH_cons, leH_nil, leH1_box, leH1_own, leH1_gone, le_vs, le_agg, le_tup, le_ptr, le_own, le_xp, le_fn, le_opt, le_val, le_elem, le_nil_own, le_nil_vs, leH_ghost, leL_chunk, leXL_id, bnd_int, bnd_bool, bnd_val, bnd_nil, bnd_junk, bnd_vs, bnd_xp, bnd_agg, bnd_tup, bnd_ptr, bnd_own, bnd_elem, bnd_fn, bnd_iface, bnd_opt, bndL_nil, bndL_cons, lenH_cons, lenH_nil, imp_self, implies_true, true_and, and_true] <;> simp
      · have e : l.any F = false := List.any_eq_false.2 fun x hx => by
          obtain ⟨j, hj, rfl⟩ := mem_getD hx
          rw [ha j (by omega)]; simp
        exact ans_bool (by rw [e] at h; exact h)
  · exact h.1.elim
def E5 : Env := { ct := fun n => match n with | 62 => some ppC | _ => none, fn := fun n => match n with | 76 => some v76 | _ => none, meth := fun _ _ => none }
theorem E5_ct62 : E5.ct 62 = some ppC := rfl
theorem E5_ct76 : E5.ct 76 = none := rfl
theorem E5_fn76 : E5.fn 76 = some v76 := rfl
theorem E5_ok : EnvOk Try.prog E5 := by
  refine ⟨fun f c h => ?_, fun f vf h => ?_, (fun _ _ _ h => by cases h), by kernel_rfl⟩
  · simp only [E5] at h
    split at h
    · cases h; exact ⟨pp_ok, Try.f62, Try.func62, by kernel_rfl, by kernel_rfl⟩
    · cases h
  · simp only [E5] at h
    split at h
    · cases h; exact ⟨Try.f76, Try.func76, v76_is, Try.f76, Try.func76, by kernel_rfl, by kernel_rfl⟩
    · cases h

theorem anyS_ok : (anyC 4 encS predS).ok Try.prog 63 := by
  refine contract Try.func63 v63_is E5_ok 100 (anyC 4 encS predS) fun args k h => ?_
  simp only [anyC] at h
  split at h
  · rename_i t z n sz get g cap
    obtain ⟨l, F, ⟨⟨rfl, rfl, hg⟩, hl, rfl, rfl, rfl⟩, h⟩ := h
    refine ⟨[.vs t z l.length 4 (fun k => encS (l.getD k default)), .fn (.func 62) [] []], ⟨by simpa [le] using hg, by simp [le_fn, bndL], trivial⟩, ?_⟩
    have h : k (.bool (l.any pipeF)) [] := h
    dsimp only [v63, v76, E5_ct76, E5_fn76, encS, go_sem, Option.bind, Option.map, List.append_nil, Nat.beq, List.cons_append, List.nil_append, List.append_eq, List.map_cons, List.map_nil, ite_self, reduceIte]
    simp only [true_and, and_true, imp_self, implies_true, decide_eq_true_eq, decide_eq_false_iff_not, Nat.reduceAdd, Nat.reduceLeDiff, Bool.not_not, reduceCtorEq, false_imp_iff, Bool.not_eq_true', Bool.not_eq_false', Bool.false_eq_true, and_self, forall_const, ne_eq, not_false_eq_true, Nat.reduceEqDiff]
    obtain ⟨F, hF⟩ : ∃ F, F = pipeF := ⟨_, rfl⟩
    rw [← hF] at h
    refine Loop.keep [0, 0, 5, 0] Nat (fun i => [(8, .int .i64 i)]) (fun _ => []) [] (fun i => i ≤ l.length ∧ ∀ j, j < i → F (l.getD j default) = false) (fun i => l.length - i) ?_ ?_
    · refine ⟨0, ⟨Nat.zero_le _, fun j h => by omega⟩, ?_⟩
      dsimp only [go_sem, Option.bind, Option.map, List.append_nil, Nat.beq, List.cons_append, List.nil_append, List.append_eq, List.map_cons, List.map_nil, ite_self, reduceIte]
      simp only [leS_mk, leL_cons, leL_nil, le_junk, le_int, le_bool, le_nil, leLL_nil, leLL_cons, leH_cons, leH_nil, leH1_box, leH1_own, leH1_gone, le_vs, le_agg, le_tup, le_ptr, le_own, le_xp, le_fn, le_opt, le_val, le_elem, le_nil_own, le_nil_vs, leH_ghost, leL_chunk, leXL_id, bnd_int, bnd_bool, bnd_val, bnd_nil, bnd_junk, bnd_vs, bnd_xp, bnd_agg, bnd_tup, bnd_ptr, bnd_own, bnd_elem, bnd_fn, bnd_iface, bnd_opt, bndL_nil, bndL_cons, lenH_cons, lenH_nil, imp_self, implies_true, true_and, and_true]
      simp
    · rintro i ⟨hi, ha⟩
      dsimp only [E5_ct62, ppC, encS, Int.toNat_natCast, go_sem, Option.bind, Option.map, List.append_nil, Nat.beq, List.cons_append, List.nil_append, List.append_eq, List.map_cons, List.map_nil, ite_self, reduceIte]
      simp only [true_and, and_true, imp_self, implies_true, decide_eq_true_eq, decide_eq_false_iff_not, Nat.reduceAdd, Nat.reduceLeDiff, Bool.not_not, reduceCtorEq, false_imp_iff, Bool.not_eq_true', Bool.not_eq_false', Bool.false_eq_true, and_self, forall_const, ne_eq, not_false_eq_true, Nat.reduceEqDiff]
      simp only [show pipeF ⟨(l.getD i default).x, (l.getD i default).y, (l.getD i default).r, (l.getD i default).h⟩ = F (l.getD i default) by rw [hF]]
      refine ⟨fun hlt => ⟨⟨by omega, hlt⟩, fun hb => ?_, fun hb => ?_⟩, fun hge => ?_⟩
      · have e : l.any F = true := List.any_eq_true.2 ⟨_, getD_mem (by omega : i < l.length), hb⟩
        have e2 : decide (0 ≤ (i : Int)) = true := decide_eq_true (by omega)
        rw [e2]
        exact ans_bool (by rw [e] at h; exact h)
      · refine ⟨i + 1, ⟨by omega, fun j hj => ?_⟩, by omega, ?_⟩
        · rcases Nat.lt_or_ge j i with h' | h'
          · exact ha j h'
          · obtain rfl : j = i := by omega
            exact hb
        · simp only [w_succ (i := i) (n := l.length) (by omega) (by omega), leS_mk, leL_cons, leL_nil, le_junk, le_int, le_bool, le_nil, leLL_nil, leLL_cons, leH_cons, leH_nil, leH1_box, leH1_own, leH1_gone, le_vs, le_agg, le_tup, le_ptr, le_own, le_xp, le_fn, le_opt, le_val, le_elem, le_nil_own, le_nil_vs, leH_ghost, leL_chunk, leXL_id, bnd_int, bnd_bool, bnd_val, bnd_nil, bnd_junk, bnd_vs, bnd_xp, bnd_agg, bnd_tup, bnd_ptr, bnd_own, bnd_elem, bnd_fn, bnd_iface, bnd_opt, bndL_nil, bndL_cons, lenH_cons, lenH_nil, imp_self, implies_true, true_and, and_true] <;> simp
      · have e : l.any F = false := List.any_eq_false.2 fun x hx => by
          obtain ⟨j, hj, rfl⟩ := mem_getD hx
          rw [ha j (by omega)]; simp
        exact ans_bool (by rw [e] at h; exact h)
  · exact h.1.elim

/-! ### Boards -/

def wrC : Ctr := { alias := false, of := fun l => match l with
  | [.agg [.int .i64 w, .int .i64 d, .int .i64 c, .int .i64 a, .int .i64 s, .vs _ _ n sz get]] => .ex Brd fun b => .pre (brdP b w d c a s n sz get ∧ b.wk.length ≤ 8) (.fin (.bool (wrongF b)) [])
  | _ => noC }
def chC : Ctr := { alias := false, of := fun l => match l with
  | [.agg [.int .i64 w, .int .i64 d, .int .i64 c, .int .i64 a, .int .i64 s, .vs _ _ n sz get], .vs _ _ n' sz' get'] => .ex Brd fun b => .ex (List Std) fun l => .pre (brdP b w d c a s n sz get ∧ lsP 4 encS n' sz' get' l) (.fin (.int .i64 (chkF b l)) [])
  | _ => noC }
def E6 : Env := { ct := fun n => match n with | 57 => some outC | 58 => some anyTC | _ => none, fn := fun _ => none, meth := fun _ _ => none }
theorem E6_ct57 : E6.ct 57 = some outC := rfl
theorem E6_ct58 : E6.ct 58 = some anyTC := rfl
theorem E6_ok : EnvOk Try.prog E6 := by
  refine ⟨fun f c h => ?_, fun f vf h => ?_, (fun _ _ _ h => by cases h), by kernel_rfl⟩
  · simp only [E6] at h
    split at h
    · cases h; exact ⟨out_ok, Try.f57, Try.func57, by kernel_rfl, by kernel_rfl⟩
    · cases h; exact ⟨anyT_ok, Try.f58, Try.func58, by kernel_rfl, by kernel_rfl⟩
    · cases h
  · cases h

theorem wr_ok : wrC.ok Try.prog 33 := by
  refine contract Try.func33 v33_is E6_ok 100 wrC fun args k h => ?_
  simp only [wrC] at h
  split at h
  · rename_i w d c a s t z n sz get
    obtain ⟨b, ⟨hb, h8⟩, h⟩ := h
    refine ⟨[.agg (encB t z b)], ⟨brd_le hb, trivial⟩, ?_⟩
    have h : k (.bool (wrongF b)) [] := h
    dsimp only [v33, E6_ct57, E6_ct58, outC, anyTC, anyC, encB, encT, go_sem, Option.bind, Option.map, List.append_nil, Nat.beq, List.cons_append, List.nil_append, List.append_eq, List.map_cons, List.map_nil, ite_self, reduceIte]
    simp only [true_and, and_true, imp_self, implies_true, decide_eq_true_eq, decide_eq_false_iff_not, Nat.reduceAdd, Nat.reduceLeDiff, Bool.not_not, reduceCtorEq, false_imp_iff, Bool.not_eq_true', Bool.not_eq_false', Bool.false_eq_true, and_self, forall_const, ne_eq, not_false_eq_true, Nat.reduceEqDiff]
    exact ⟨b.wk, placeF, fun _ => ⟨lsP_self, by omega, rfl, rfl, rfl⟩, ans_bool h⟩
  · exact h.1.elim
def E7 : Env := { ct := fun n => match n with | 33 => some wrC | 63 => some anySC | _ => none, fn := fun _ => none, meth := fun _ _ => none }
theorem E7_ct33 : E7.ct 33 = some wrC := rfl
theorem E7_ct63 : E7.ct 63 = some anySC := rfl
theorem E7_ok : EnvOk Try.prog E7 := by
  refine ⟨fun f c h => ?_, fun f vf h => ?_, (fun _ _ _ h => by cases h), by kernel_rfl⟩
  · simp only [E7] at h
    split at h
    · cases h; exact ⟨wr_ok, Try.f33, Try.func33, by kernel_rfl, by kernel_rfl⟩
    · cases h; exact ⟨anyS_ok, Try.f63, Try.func63, by kernel_rfl, by kernel_rfl⟩
    · cases h
  · cases h

theorem ch_ok : chC.ok Try.prog 44 := by
  refine contract Try.func44 v44_is E7_ok 100 chC fun args k h => ?_
  simp only [chC] at h
  split at h
  · rename_i w d c a s t z n sz get t' z' n' sz' get'
    obtain ⟨b, l, ⟨hb, rfl, rfl, hg⟩, h⟩ := h
    refine ⟨[.agg (encB t z b), .vs t' z' l.length 4 (fun k => encS (l.getD k default))], ⟨brd_le hb, by simpa [le] using hg, trivial⟩, ?_⟩
    have h : k (.int .i64 (chkF b l)) [] := h
    dsimp only [v44, E7_ct33, E7_ct63, wrC, anySC, anyC, encB, encT, encS, go_sem, Option.bind, Option.map, List.append_nil, Nat.beq, List.cons_append, List.nil_append, List.append_eq, List.map_cons, List.map_nil, ite_self, reduceIte]
    simp only [true_and, and_true, imp_self, implies_true, decide_eq_true_eq, decide_eq_false_iff_not, Nat.reduceAdd, Nat.reduceLeDiff, Bool.not_not, reduceCtorEq, false_imp_iff, Bool.not_eq_true', Bool.not_eq_false', Bool.false_eq_true, and_self, forall_const, ne_eq, not_false_eq_true, Nat.reduceEqDiff]
    unfold chkF at h
    refine ⟨fun hb => ?_, fun hb => ?_⟩
    · simp only [Bool.or_eq_true, decide_eq_true_eq] at hb
      rw [if_pos (by omega)] at h
      exact ans_int h
    · simp only [Bool.or_eq_false_iff, decide_eq_false_iff_not] at hb
      rw [if_neg (by omega)] at h
      refine ⟨b, ⟨brdP_self b, by omega⟩, l, pipeF, fun _ => ⟨lsP_self, by omega, rfl, rfl, rfl⟩, fun hc => ?_, fun hc => ?_⟩
      · rw [if_pos hc] at h; exact ans_int h
      · rw [if_neg (by rw [hc]; simp)] at h; exact ans_int h
  · exact h.1.elim
end Go.Proofs.Ytojaibhjfeojjaa

/- Layouts, walked: where pipes stand; Check. -/
/- Layouts, walked: where pipes stand; Check. -/
set_option linter.all false
namespace Go.Proofs.Ytojaibhjfeojjaa
open Go Go.Vx
set_option maxRecDepth 100000
set_option maxHeartbeats 4000000

def v64 : VF := { ntmps := 12, res := [.tmp 4], body :=
 (.seq (.region [u1 4 .mov [.cn (.int .i64 0)]])
 (.seq (.region [u1 5 .mov [.tm 0],
 u1 6 .mov [.tm 0],
 u1 7 (.ari .mul) [.tm 5, .tm 6],
 u1 8 .mov [.tm 1],
 u1 9 .mov [.tm 1],
 u1 10 (.ari .mul) [.tm 8, .tm 9],
 u1 11 (.ari .add) [.tm 7, .tm 10],
 u1 4 .mov [.tm 11]])
 .ret)) }
theorem v64_is : vfunc Try.prog Try.f64 = some v64 := by kernel_rfl
/-- Numbers whose squares fit. -/
def midN (x : Int) : Prop := -100000000 ≤ x ∧ x ≤ 100000000
theorem mid_mul {x y : Int} (hx : midN x) (hy : midN y) : -10000000000000000 ≤ x * y ∧ x * y ≤ 10000000000000000 := by
  have h : (x * y).natAbs ≤ 100000000 * 100000000 := by
    rw [Int.natAbs_mul]
    exact Nat.mul_le_mul (by have := hx.1; have := hx.2; omega) (by have := hy.1; have := hy.2; omega)
  omega
theorem mid_w {x : Int} (h : -1000000000000000000 ≤ x ∧ x ≤ 1000000000000000000) : IntKind.i64.wrap x = x := IntWalk.i64_in x (by omega)
theorem sq0 (x : Int) : 0 ≤ x * x := by
  rw [← Int.natAbs_mul_self]; exact Int.natCast_nonneg _
theorem sq_w {x y : Int} (hx : midN x) (hy : midN y) : IntKind.i64.wrap (IntKind.i64.wrap (x * x) + IntKind.i64.wrap (y * y)) = sqF x y ∧ 0 ≤ sqF x y ∧ sqF x y ≤ 20000000000000000 := by
  have a := mid_mul hx hx
  have b := mid_mul hy hy
  have a0 := sq0 x
  have b0 := sq0 y
  unfold sqF
  rw [mid_w (x := x * x) (by omega), mid_w (x := y * y) (by omega), mid_w (by omega)]
  omega

def sqC : Ctr := { alias := false, of := fun l => match l with
  | [.int .i64 x, .int .i64 y] => .pre (midN x ∧ midN y) (.fin (.int .i64 (sqF x y)) [])
  | _ => noC }
def F0 : Env := { ct := fun _ => none, fn := fun _ => none, meth := fun _ _ => none }
theorem F0_ok : EnvOk Try.prog F0 := by
  refine ⟨fun f c h => ?_, fun f vf h => ?_, (fun _ _ _ h => by cases h), by kernel_rfl⟩
  · cases h
  · cases h

theorem sq_ok : sqC.ok Try.prog 64 := by
  refine contract Try.func64 v64_is F0_ok 100 sqC fun args k h => ⟨args, ?_⟩
  simp only [sqC] at h
  split at h
  · refine ⟨by simp [leL, le], ?_⟩
    obtain ⟨⟨hx, hy⟩, h⟩ := h
    dsimp only [v64, go_sem, Option.bind, Option.map, List.append_nil, Nat.beq, List.cons_append, List.nil_append, List.append_eq, List.map_cons, List.map_nil, ite_self, reduceIte]
    simp only [true_and, and_true, imp_self, implies_true, decide_eq_true_eq, decide_eq_false_iff_not, Nat.reduceAdd, Nat.reduceLeDiff, Bool.not_not, reduceCtorEq, false_imp_iff, Bool.not_eq_true', Bool.not_eq_false', Bool.false_eq_true, and_self, forall_const, ne_eq, not_false_eq_true, Nat.reduceEqDiff]
    rw [(sq_w hx hy).1]
    exact ans_int h
  · exact h.1.elim

def ckC : Ctr := { alias := false, of := fun l => match l with
  | [.agg [.int .i64 w, .int .i64 d, .int .i64 c, .int .i64 a, .int .i64 s, .vs _ _ n sz get], .vs _ _ n' sz' get'] => .ex Brd fun b => .ex (List Std) fun l => .pre (brdP b w d c a s n sz get ∧ lsP 4 encS n' sz' get' l) (.fin (.int .i64 (checkF b l)) [])
  | _ => noC }
end Go.Proofs.Ytojaibhjfeojjaa

/- Numbers by limbs of 32 bits, in plain Lean: digits, lengths, sums, differences, products. -/
/- Numbers by limbs of 32 bits, in plain Lean: digits, lengths, sums, differences, products. -/
set_option linter.all false
namespace Go.Proofs.Ytojaibhjfeojjaa
open Go Go.Vx

theorem u_nat {x : Nat} (h : x < 18446744073709551616) : IntKind.u64.wrap (x : Int) = x := IntWalk.u64_in _ (by omega)
theorem u_add {x y : Nat} (h : x + y < 18446744073709551616) : IntKind.u64.wrap ((x : Int) + (y : Int)) = ((x + y : Nat) : Int) := by rw [IntWalk.u64_in _ (by omega)]; simp
theorem u_mul {x y : Nat} (h : x * y < 18446744073709551616) : IntKind.u64.wrap ((x : Int) * (y : Int)) = ((x * y : Nat) : Int) := by
  rw [← Int.natCast_mul]; exact u_nat h
end Go.Proofs.Ytojaibhjfeojjaa

/- Numbers by limbs, in plain Lean: bits, doubling, division. -/
/- Numbers by limbs, in plain Lean: bits, doubling, division. -/
set_option linter.all false
namespace Go.Proofs.Ytojaibhjfeojjaa
open Go Go.Vx

end Go.Proofs.Ytojaibhjfeojjaa

/- Fractions, in plain Lean: a pair (n, d), d above 0, told by its lowest terms. -/
/- Fractions, in plain Lean: a pair (n, d), d above 0, told by its lowest terms. -/
set_option linter.all false
namespace Go.Proofs.Ytojaibhjfeojjaa
open Go Go.Vx

end Go.Proofs.Ytojaibhjfeojjaa

/- Words of 64 bits, in plain Lean: products and quotients of two words. -/
/- Words of 64 bits, in plain Lean: products and quotients of two words. -/
set_option linter.all false
namespace Go.Proofs.Ytojaibhjfeojjaa
open Go Go.Vx

theorem ofInt_nat6 {x : Nat} (h : x < 18446744073709551616) : (BitVec.ofInt 64 (x : Int)).toNat = x := by
  simp [BitVec.toNat_ofInt]; omega
theorem and_mask {x : Nat} (h : x < 18446744073709551616) : IntKind.u64.wrap ((BitVec.ofInt 64 (x : Int) &&& BitVec.ofInt 64 4294967295).toNat : Int) = ((x % 4294967296 : Nat) : Int) := by
  have h2 : (BitVec.ofInt 64 4294967295).toNat = 2 ^ 32 - 1 := by decide
  rw [BitVec.toNat_and, ofInt_nat6 h, h2, Nat.and_two_pow_sub_one_eq_mod]
  exact u_nat (by omega)
theorem shr_nat {x s : Nat} (hs : s ≤ 64) : (x : Int).fdiv (2 ^ min s 64) = ((x / 2 ^ s : Nat) : Int) := by
  rw [Nat.min_eq_left hs, Int.fdiv_eq_ediv_of_nonneg _ (Int.le_of_lt (Int.pow_pos (by decide)))]
  simp
theorem u_mod (x : Int) : IntKind.u64.wrap x = x % 18446744073709551616 := by
  rw [IntKind.wrap_u64]
/-- The higher word of a product. -/
theorem mul_hi {x y : Nat} (hx : x < 18446744073709551616) (hy : y < 18446744073709551616) :
    let x0 := x % 4294967296; let x1 := x / 4294967296; let y0 := y % 4294967296; let y1 := y / 4294967296
    let t := x1 * y0 + x0 * y0 / 4294967296
    let w1 := t % 4294967296 + x0 * y1
    x1 * y1 + t / 4294967296 + w1 / 4294967296 = x * y / 18446744073709551616 ∧ x0 * y0 < 18446744073709551616 ∧ x1 * y0 < 18446744073709551616 ∧ t < 18446744073709551616 ∧ x0 * y1 < 18446744073709551616 ∧ w1 < 18446744073709551616 ∧ x1 * y1 < 18446744073709551616 ∧ x1 * y1 + t / 4294967296 < 18446744073709551616 ∧ x1 * y1 + t / 4294967296 + w1 / 4294967296 < 18446744073709551616 := by
  intro x0 x1 y0 y1 t w1
  have e1 : x = 4294967296 * x1 + x0 := (Nat.div_add_mod x _).symm
  have e2 : y = 4294967296 * y1 + y0 := (Nat.div_add_mod y _).symm
  have h0 : x0 < 4294967296 := Nat.mod_lt _ (by decide)
  have h1 : y0 < 4294967296 := Nat.mod_lt _ (by decide)
  have h2 : x1 < 4294967296 := by omega
  have h3 : y1 < 4294967296 := by omega
  have m : ∀ {a b : Nat}, a < 4294967296 → b < 4294967296 → a * b ≤ 4294967295 * 4294967295 := fun ha hb => Nat.mul_le_mul (by omega) (by omega)
  have p1 := m h0 h1
  have p2 := m h2 h1
  have p3 := m h0 h3
  have p4 := m h2 h3
  have e : x * y = 18446744073709551616 * (x1 * y1) + 4294967296 * (x1 * y0 + x0 * y1) + x0 * y0 := by
    rw [e1, e2]; grind
  have ht : t = x1 * y0 + x0 * y0 / 4294967296 := rfl
  have hw : w1 = t % 4294967296 + x0 * y1 := rfl
  rw [e]
  generalize x0 * y0 = A at *
  generalize x1 * y0 = B at *
  generalize x0 * y1 = C at *
  generalize x1 * y1 = D at *
  omega

/-- What the loop finds: q is at least the digit; the rest fits. -/
structure DigInv (y1 y0 a u q r : Nat) : Prop where
  eq : q * y1 + r = a
  ge : (a * 4294967296 + u) / (y1 * 4294967296 + y0) ≤ q
  le : q ≤ 4294967297

end Go.Proofs.Ytojaibhjfeojjaa

/- Words of 64 bits, walked: Mul64 alone. -/
/- Words of 64 bits, walked: Mul64 alone. -/
set_option linter.all false
namespace Go.Proofs.Ytojaibhjfeojjaa
open Go Go.Vx
set_option maxRecDepth 100000
set_option maxHeartbeats 4000000

def v80 : VF := { ntmps := 51, res := [.tmp 4, .tmp 5], body :=
 (.seq (.region [u1 4 .mov [.cn (.int .u64 0)],
 u1 5 .mov [.cn (.int .u64 0)]])
 (.seq (.region [u1 14 .mov [.tm 0],
 u1 15 (.bit .and) [.tm 14, .cn (.int .u64 4294967295)],
 u1 6 .mov [.tm 15]])
 (.seq (.region [u1 16 .mov [.tm 0],
 u1 17 .shr [.tm 16, .cn (.int .u64 32)],
 u1 7 .mov [.tm 17]])
 (.seq (.region [u1 18 .mov [.tm 1],
 u1 19 (.bit .and) [.tm 18, .cn (.int .u64 4294967295)],
 u1 8 .mov [.tm 19]])
 (.seq (.region [u1 20 .mov [.tm 1],
 u1 21 .shr [.tm 20, .cn (.int .u64 32)],
 u1 9 .mov [.tm 21]])
 (.seq (.region [u1 22 .mov [.tm 6],
 u1 23 .mov [.tm 8],
 u1 24 (.ari .mul) [.tm 22, .tm 23],
 u1 10 .mov [.tm 24]])
 (.seq (.region [u1 25 .mov [.tm 7],
 u1 26 .mov [.tm 8],
 u1 27 (.ari .mul) [.tm 25, .tm 26],
 u1 28 .mov [.tm 10],
 u1 29 .shr [.tm 28, .cn (.int .u64 32)],
 u1 30 (.ari .add) [.tm 27, .tm 29],
 u1 11 .mov [.tm 30]])
 (.seq (.region [u1 31 .mov [.tm 11],
 u1 32 (.bit .and) [.tm 31, .cn (.int .u64 4294967295)],
 u1 12 .mov [.tm 32]])
 (.seq (.region [u1 33 .mov [.tm 11],
 u1 34 .shr [.tm 33, .cn (.int .u64 32)],
 u1 13 .mov [.tm 34]])
 (.seq (.region [u1 35 .mov [.tm 12],
 u1 36 .mov [.tm 6],
 u1 37 .mov [.tm 9],
 u1 38 (.ari .mul) [.tm 36, .tm 37],
 u1 39 (.ari .add) [.tm 35, .tm 38],
 u1 12 .mov [.tm 39]])
 (.seq (.region [u1 40 .mov [.tm 7],
 u1 41 .mov [.tm 9],
 u1 42 (.ari .mul) [.tm 40, .tm 41],
 u1 43 .mov [.tm 13],
 u1 44 (.ari .add) [.tm 42, .tm 43],
 u1 45 .mov [.tm 12],
 u1 46 .shr [.tm 45, .cn (.int .u64 32)],
 u1 47 (.ari .add) [.tm 44, .tm 46],
 u1 4 .mov [.tm 47]])
 (.seq (.region [u1 48 .mov [.tm 0],
 u1 49 .mov [.tm 1],
 u1 50 (.ari .mul) [.tm 48, .tm 49],
 u1 5 .mov [.tm 50]])
 .ret)))))))))))) }
theorem v80_is : vfunc Try.prog Try.f80 = some v80 := by kernel_rfl

theorem ans_ii {k : SV → List HO → Prop} {al : Bool} {hp : List HO} {κ κ' : IntKind} {x y : Int} (h : k (.tup [.int κ x, .int κ' y]) []) : answers al k (.tup [.int κ x, .int κ' y]) hp :=
  ans_le (show k _ [] from h) (le_self (.tup [.int κ x, .int κ' y]) ⟨trivial, trivial, trivial⟩) (fun _ => by simp [freshS, freshL])
def mul64C : Ctr := { alias := false, of := fun l => match l with
  | [.int .u64 x, .int .u64 y] => .pre ((0 ≤ x ∧ x ≤ 18446744073709551615) ∧ 0 ≤ y ∧ y ≤ 18446744073709551615) (.fin (.tup [.int .u64 (x * y / 18446744073709551616), .int .u64 (x * y % 18446744073709551616)]) [])
  | _ => noC }
def B0 : Env := { ct := fun _ => none, fn := fun _ => none, meth := fun _ _ => none }
theorem B0_ok : EnvOk Try.prog B0 := by
  refine ⟨fun f c h => ?_, fun f vf h => ?_, (fun _ _ _ h => by cases h), by kernel_rfl⟩
  · cases h
  · cases h

theorem mul64_ok : mul64C.ok Try.prog 80 := by
  refine contract Try.func80 v80_is B0_ok 200 mul64C fun args k h => ?_
  simp only [mul64C] at h
  split at h
  · rename_i x y
    obtain ⟨⟨⟨h0, h1⟩, h2, h3⟩, h⟩ := h
    obtain ⟨x, rfl⟩ := Int.eq_ofNat_of_zero_le h0
    obtain ⟨y, rfl⟩ := Int.eq_ofNat_of_zero_le h2
    refine ⟨[.int .u64 x, .int .u64 y], by simp [leL, le], ?_⟩
    dsimp only [v80, bitI, r_end, r_end1, r_nil, r_op, r_opg, r_runOp, r_op0, r_yld0, r_yld1, r_y, r_rbeg, r_rend, r_rend1, r_rfrm, r_rfrm1, r_range, r_rangeK, r_rangeE, r_draw, r_drawT, r_tleaf, r_tops, r_tbr, s_chkF, s_chkT, r_dnil, r_dop, r_dopg, r_dplq, r_dplh, r_dq, r_dq0, r_dcl1, r_dcl0, r_dct1, r_dct0, r_dgd, r_dgq1, r_dgq0, r_dctG, r_op1, r_eff, r_eff0, r_call, r_call0, r_inl, r_g, r_gq, r_gc, r_effg, r_effg0, r_callg, r_callg0, r_fin, r_pre, r_imp, r_all, r_ex, r_fing, r_preg, r_exg, r_inBlock, r_inLoop, r_frame, r_frame1, r_skip, r_stuck, r_region, r_seq, r_cond, r_cond1, r_block, r_exit, r_exit1, r_exit2, r_ret, r_loop, s_args0, s_args1, s_xt, s_xc, u0, u1, u2, w0, w1, noOwn, noOwnL, padL, blankL, callee, calleeM, callArgs, eff, ctOf, ctM, ctI, getL, setL, S.put, S.upd, unopts, unopt, unoptsO, unoptsB, lazyO, guardOf, gbool, eMov, eNot, eNeg, eConv, eExt, eLenArr, eLen, eLenStr, eEqb, eEqv, allEq, eNil, negIf, eBool2, eCmp, eAri, ari, eBit, eDiv, eSh, eMinMax, foldMin, foldMax, kEq, pure1, cmpB, VO.quiet, resVals, resVal, tupled, popRet, popTo, cond, Option.bind, Option.map, eNew, eBox, asCells, lenH, snocH, eFieldAddr, eField, eLoad, cellsAt, getH, setH, dropL, takeL, mkAgg, lenL, lenS, shift, shiftL, shiftH, viewN, viewL, view, andT, junks, List.append_nil, Nat.beq, eIdxAddr, eIdxArr, idxN_0, idxN_1, idxN_2, idxN_3, eIndex, eStore, storeAt, spliceL, ones, one, eSlice, eSliceArr, bounds, subLo_z, addLo_z, subLo_one, addLo_one, eMake, eAppend, readS, repL, buildCells, chunk, purgeL, purgeLL, purgeH, purge, refs, refsL, List.cons_append, List.nil_append, wrOps, wrAl, wrDops, wrC, junkAt, putAll, putHs, headOf, headK, keepG, List.append_eq, headX, VO.isAppend, chkG, chkA, napP, napB, there, wrDtr, chkP, apartP, apartB, blk, strip, runAl, AL.ho, yld, putPs, lenN, findR, notRound, jumpK, jumpPT, jcode, List.map_cons, List.map_nil, ite_self, reduceIte]
    simp only [true_and, and_true, imp_self, implies_true, decide_eq_true_eq, decide_eq_false_iff_not, Nat.reduceAdd, Nat.reduceLeDiff, Bool.not_not, reduceCtorEq, false_imp_iff, Bool.not_eq_true', Bool.not_eq_false', Bool.false_eq_true, and_self, forall_const, ne_eq, not_false_eq_true, Nat.reduceEqDiff]
    have hx : x < 18446744073709551616 := by omega
    have hy : y < 18446744073709551616 := by omega
    obtain ⟨e, b1, b2, b3, b4, b5, b6, b7, b8⟩ := mul_hi hx hy
    have s32 : ∀ z : Nat, (z : Int).fdiv (2 ^ min (Int.toNat 32) IntKind.u64.bits) = ((z / 4294967296 : Nat) : Int) := fun z => shr_nat (s := 32) (by decide)
    have hm : ∀ z : Nat, z % 4294967296 < 18446744073709551616 := fun z => by omega
    rw [show IntKind.u64.bits = 64 from rfl] at *
    rw [and_mask hx, and_mask hy, s32 x, s32 y, u_mul b1, s32 (x % 4294967296 * (y % 4294967296)), u_mul b2, u_add b3, s32 (x / 4294967296 * (y % 4294967296) + x % 4294967296 * (y % 4294967296) / 4294967296), and_mask b3, u_mul b4, u_add b5, s32, u_mul b6, u_add b7, u_add b8, e, u_mod]
    refine ⟨by decide, by decide, by decide, by decide, by decide, ?_⟩
    have h : k (.tup [.int .u64 ((x : Int) * y / 18446744073709551616), .int .u64 ((x : Int) * y % 18446744073709551616)]) [] := h
    have e2 : ((x * y / 18446744073709551616 : Nat) : Int) = (x : Int) * y / 18446744073709551616 := by
      rw [← Int.natCast_mul]; generalize x * y = z; omega
    rw [e2]
    exact ans_ii h
  · exact h.1.elim
end Go.Proofs.Ytojaibhjfeojjaa

/- Layouts, walked: from where a pipe is reached. -/
/- Layouts, walked: from where a pipe is reached. -/
set_option linter.all false
namespace Go.Proofs.Ytojaibhjfeojjaa
open Go Go.Vx
set_option maxRecDepth 100000
set_option maxHeartbeats 4000000

def v77 : VF := { ntmps := 18, res := [.cell 4 true 2], body :=
 (.seq (.region [u1 4 (.allocArr 2 1 [(.int .u64 0), (.int .u64 0)]) []])
 (.seq (.region [u1 8 .mov [.tm 0],
 u1 9 (.conv .u64) [.tm 8],
 u1 10 .mov [.tm 1],
 u1 11 (.conv .u64) [.tm 10],
 u1 12 (.call 80) [.tm 9, .tm 11],
 u1 7 .mov [.tm 12],
 u1 13 (.ext 0) [.tm 7],
 u1 14 (.ext 1) [.tm 7],
 u1 5 .mov [.tm 13],
 u1 6 .mov [.tm 14]])
 (.seq (.region [u1 15 .mov [.tm 5],
 u1 16 .mov [.tm 6],
 u1 17 (.build [(.int .u64 0), (.int .u64 0)] [(0, 1), (1, 1)]) [.tm 15, .tm 16],
 u0 (.store 2) [.tm 4, .tm 17]])
 .ret))) }
theorem v77_is : vfunc Try.prog Try.f77 = some v77 := by kernel_rfl
def v78 : VF := { ntmps := 27, res := [.tmp 4], body :=
 (.seq (.region [u1 2 .box [.tm 0],
 u1 3 .box [.tm 1],
 u1 4 .mov [.cn (.bool false)]])
 (.seq (.seq (.region [u1 5 (.load true 2) [.tm 2],
 u1 6 (.load true 2) [.tm 3],
 u1 7 (.eqv false [true, true]) [.tm 5, .tm 6]])
 (.cond (.tm 7) (.seq (.region [u1 4 .mov [.cn (.bool false)]])
 .ret)
  .skip))
 (.seq (.region [u1 8 (.idxArr 2 1) [.tm 2, .cn (.int .i64 0)],
 u1 9 (.load false 1) [.tm 8],
 u1 10 (.idxArr 2 1) [.tm 3, .cn (.int .i64 0)],
 u1 11 (.load false 1) [.tm 10],
 u1 12 (.cmp .lss) [.tm 9, .tm 11],
 u1 13 .mov [.tm 12],
 u2 14 13 false (.idxArr 2 1) [.tm 2, .cn (.int .i64 0)],
 u2 15 13 false (.load false 1) [.tm 14],
 u2 16 13 false (.idxArr 2 1) [.tm 3, .cn (.int .i64 0)],
 u2 17 13 false (.load false 1) [.tm 16],
 u2 18 13 false (.cmp .eql) [.tm 15, .tm 17],
 u2 19 13 false .mov [.tm 18],
 u2 20 19 true (.idxArr 2 1) [.tm 2, .cn (.int .i64 1)],
 u2 21 19 true (.load false 1) [.tm 20],
 u2 22 19 true (.idxArr 2 1) [.tm 3, .cn (.int .i64 1)],
 u2 23 19 true (.load false 1) [.tm 22],
 u2 24 19 true (.cmp .lss) [.tm 21, .tm 23],
 u2 25 13 false .and [.tm 19, .tm 24],
 u1 26 .or [.tm 13, .tm 25],
 u1 4 .mov [.tm 26]])
 .ret))) }
theorem v78_is : vfunc Try.prog Try.f78 = some v78 := by kernel_rfl
def v66 : VF := { ntmps := 73, res := [.tmp 10], body :=
 (.seq (.region [u1 10 .mov [.cn (.bool false)]])
 (.seq (.region [u1 14 .mov [.tm 0],
 u1 15 .mov [.tm 2],
 u1 16 (.ari .mul) [.tm 14, .tm 15],
 u1 17 .mov [.tm 1],
 u1 18 .mov [.tm 3],
 u1 19 (.ari .mul) [.tm 17, .tm 18],
 u1 20 (.ari .add) [.tm 16, .tm 19],
 u1 21 .mov [.tm 0],
 u1 22 .mov [.tm 1],
 u1 23 (.call 64) [.tm 21, .tm 22],
 u1 11 .mov [.tm 20],
 u1 12 .mov [.tm 23]])
 (.block 0 (.seq (.region [u1 49 .mov [.tm 11],
 u1 50 (.cmp .leq) [.tm 49, .cn (.int .i64 0)],
 u1 48 .mov [.tm 50]])
 (.cond (.tm 48) (.seq (.region [u1 51 .mov [.tm 2],
 u1 52 .mov [.tm 3],
 u1 53 (.call 64) [.tm 51, .tm 52],
 u1 54 .mov [.tm 4],
 u1 55 .mov [.tm 4],
 u1 56 (.ari .mul) [.tm 54, .tm 55],
 u1 57 (.cmp .lss) [.tm 53, .tm 56],
 u1 10 .mov [.tm 57]])
 .ret)
  (.seq (.region [u1 59 .mov [.tm 11],
 u1 60 .mov [.tm 12],
 u1 61 (.cmp .geq) [.tm 59, .tm 60],
 u1 58 .mov [.tm 61]])
 (.cond (.tm 58) (.seq (.region [u1 62 .mov [.tm 2],
 u1 63 .mov [.tm 0],
 u1 64 (.ari .sub) [.tm 62, .tm 63],
 u1 65 .mov [.tm 3],
 u1 66 .mov [.tm 1],
 u1 67 (.ari .sub) [.tm 65, .tm 66],
 u1 68 (.call 64) [.tm 64, .tm 67],
 u1 69 .mov [.tm 4],
 u1 70 .mov [.tm 4],
 u1 71 (.ari .mul) [.tm 69, .tm 70],
 u1 72 (.cmp .lss) [.tm 68, .tm 71],
 u1 10 .mov [.tm 72]])
 .ret)
  (.seq (.region [u1 24 .mov [.tm 0],
 u1 25 .mov [.tm 3],
 u1 26 (.ari .mul) [.tm 24, .tm 25],
 u1 27 .mov [.tm 1],
 u1 28 .mov [.tm 2],
 u1 29 (.ari .mul) [.tm 27, .tm 28],
 u1 30 (.ari .sub) [.tm 26, .tm 29],
 u1 31 .mov [.tm 1],
 u1 32 .mov [.tm 2],
 u1 33 (.ari .mul) [.tm 31, .tm 32],
 u1 34 .mov [.tm 0],
 u1 35 .mov [.tm 3],
 u1 36 (.ari .mul) [.tm 34, .tm 35],
 u1 37 (.ari .sub) [.tm 33, .tm 36],
 u1 38 .max [.tm 30, .tm 37],
 u1 13 .mov [.tm 38]])
 (.seq (.region [u1 39 .mov [.tm 13],
 u1 40 .mov [.tm 13],
 u1 41 (.call 77) [.tm 39, .tm 40],
 u1 42 .mov [.tm 4],
 u1 43 .mov [.tm 4],
 u1 44 (.ari .mul) [.tm 42, .tm 43],
 u1 45 .mov [.tm 12],
 u1 46 (.call 77) [.tm 44, .tm 45],
 u1 47 (.call 78) [.tm 41, .tm 46],
 u1 10 .mov [.tm 47]])
 .ret))))))))) }
theorem v66_is : vfunc Try.prog Try.f66 = some v66 := by kernel_rfl
def v65 : VF := { ntmps := 33, res := [.tmp 7], body :=
 (.seq (.region [u1 6 .box [.tm 0],
 u1 7 .mov [.cn (.bool false)]])
 (.seq (.region [u1 8 (.fieldAddr 3) [.tm 6],
 u1 9 (.load false 1) [.tm 8],
 u1 10 (.fieldAddr 3) [.tm 1],
 u1 11 (.load false 1) [.tm 10],
 u1 12 (.cmp .gtr) [.tm 9, .tm 11],
 u1 13 .mov [.tm 12],
 u2 14 13 true (.load false 1) [.tm 2],
 u2 15 13 true (.load false 1) [.tm 3],
 u2 16 13 true (.fieldAddr 0) [.tm 6],
 u2 17 13 true (.load false 1) [.tm 16],
 u2 18 13 true (.fieldAddr 0) [.tm 4],
 u2 19 13 true (.load false 1) [.tm 18],
 u2 20 13 true (.ari .sub) [.tm 17, .tm 19],
 u2 21 13 true (.fieldAddr 1) [.tm 6],
 u2 22 13 true (.load false 1) [.tm 21],
 u2 23 13 true (.fieldAddr 1) [.tm 4],
 u2 24 13 true (.load false 1) [.tm 23],
 u2 25 13 true (.ari .sub) [.tm 22, .tm 24],
 u2 26 13 true (.fieldAddr 2) [.tm 6],
 u2 27 13 true (.load false 1) [.tm 26],
 u2 28 13 true (.fieldAddr 4) [.tm 5],
 u2 29 13 true (.load false 1) [.tm 28],
 u2 30 13 true (.ari .add) [.tm 27, .tm 29],
 u2 31 13 true (.call 66) [.tm 14, .tm 15, .tm 20, .tm 25, .tm 30],
 u1 32 .and [.tm 13, .tm 31],
 u1 7 .mov [.tm 32]])
 .ret)) }
theorem v65_is : vfunc Try.prog Try.f65 = some v65 := by kernel_rfl
def v45 : VF := { ntmps := 43, res := [.tmp 8], body :=
 (.seq (.region [u1 4 .box [.tm 0],
 u1 6 .box [.tm 2],
 u1 8 .mov [.cn (.bool false)]])
 (.seq (.region [u1 13 .mov [.tm 1],
 u1 14 .mov [.tm 3],
 u1 15 (.idxAddr 4) [.tm 13, .tm 14],
 u1 16 (.load true 4) [.tm 15],
 u1 9 (.alloc [(.int .i64 0), (.int .i64 0), (.int .i64 0), (.int .i64 0)]) [],
 u0 (.store 4) [.tm 9, .tm 16]])
 (.seq (.draw [(10, .box [(.int .i64 0)]), (11, .box [(.int .i64 0)])] [w1 17 (.fieldAddr 0) [.tm 9],
 w1 18 (.load false 1) [.tm 17],
 w1 19 (.fieldAddr 0) [.tm 6],
 w1 20 (.load false 1) [.tm 19],
 w1 21 (.ari .sub) [.tm 18, .tm 20],
 w1 22 (.fieldAddr 1) [.tm 9],
 w1 23 (.load false 1) [.tm 22],
 w1 24 (.fieldAddr 1) [.tm 6],
 w1 25 (.load false 1) [.tm 24],
 w1 26 (.ari .sub) [.tm 23, .tm 25],
 ⟨u0 (.store 1) [.tm 10, .tm 21], [.tm 22, .tm 24]⟩,
 w0 (.store 1) [.tm 11, .tm 26]])
 (.seq (.seq (.region [u1 27 (.fieldAddr 3) [.tm 4],
 u1 28 (.load false 1) [.tm 27],
 u1 29 (.fieldAddr 2) [.tm 9],
 u1 30 (.load false 1) [.tm 29],
 u1 31 (.ari .add) [.tm 28, .tm 30],
 u1 12 .mov [.tm 31]])
 (.seq (.region [u1 32 (.load false 1) [.tm 10],
 u1 33 (.load false 1) [.tm 11],
 u1 34 (.call 64) [.tm 32, .tm 33],
 u1 35 .mov [.tm 12],
 u1 36 .mov [.tm 12],
 u1 37 (.ari .mul) [.tm 35, .tm 36],
 u1 38 (.cmp .gtr) [.tm 34, .tm 37]])
 (.cond (.tm 38) (.seq (.region [u1 8 .mov [.cn (.bool false)]])
 .ret)
  .skip)))
 (.seq (.region [u1 39 .mov [.tm 1],
 u1 40 (.mkfn (.func 65) 0) [.tm 9, .tm 10, .tm 11, .tm 6, .tm 4],
 u1 41 (.call 63) [.tm 39, .tm 40],
 u1 42 .not [.tm 41],
 u1 8 .mov [.tm 42]])
 .ret))))) }
theorem v45_is : vfunc Try.prog Try.f45 = some v45 := by kernel_rfl


theorem ans_a2 {k : SV → List HO → Prop} {al : Bool} {hp : List HO} {κ κ' : IntKind} {x y : Int} (h : k (.agg [.int κ x, .int κ' y]) []) : answers al k (.agg [.int κ x, .int κ' y]) hp :=
  ans_le (show k _ [] from h) (le_self (.agg [.int κ x, .int κ' y]) ⟨trivial, trivial, trivial⟩) (fun _ => by simp [freshS, freshL])

def tmC : Ctr := { alias := false, of := fun l => match l with
  | [.int .i64 x, .int .i64 y] => .pre ((0 ≤ x ∧ x ≤ 1000000000000000000) ∧ 0 ≤ y ∧ y ≤ 1000000000000000000) (.fin (.agg [.int .u64 (x * y / 18446744073709551616), .int .u64 (x * y % 18446744073709551616)]) [])
  | _ => noC }
def G0 : Env := { ct := fun n => match n with | 80 => some mul64C | _ => none, fn := fun _ => none, meth := fun _ _ => none }
theorem G0_ct80 : G0.ct 80 = some mul64C := rfl
theorem G0_ok : EnvOk Try.prog G0 := by
  refine ⟨fun f c h => ?_, fun f vf h => ?_, (fun _ _ _ h => by cases h), by kernel_rfl⟩
  · simp only [G0] at h
    split at h
    · cases h; exact ⟨mul64_ok, Try.f80, Try.func80, by kernel_rfl, by kernel_rfl⟩
    · cases h
  · cases h

theorem tm_ok : tmC.ok Try.prog 77 := by
  refine contract Try.func77 v77_is G0_ok 100 tmC fun args k h => ⟨args, ?_⟩
  simp only [tmC] at h
  split at h
  · refine ⟨by simp [leL, le], ?_⟩
    obtain ⟨⟨hx, hy⟩, h⟩ := h
    dsimp only [v77, G0_ct80, mul64C, go_sem, Option.bind, Option.map, List.append_nil, Nat.beq, List.cons_append, List.nil_append, List.append_eq, List.map_cons, List.map_nil, ite_self, reduceIte]
    simp only [true_and, and_true, imp_self, implies_true, decide_eq_true_eq, decide_eq_false_iff_not, Nat.reduceAdd, Nat.reduceLeDiff, Bool.not_not, reduceCtorEq, false_imp_iff, Bool.not_eq_true', Bool.not_eq_false', Bool.false_eq_true, and_self, forall_const, ne_eq, not_false_eq_true, Nat.reduceEqDiff]
    rw [IntWalk.u64_in _ (by omega), IntWalk.u64_in _ (by omega)]
    exact ⟨⟨by omega, by omega⟩, by decide, by decide, by decide, ans_a2 h⟩
  · exact h.1.elim
theorem less_iff {v w M : Int} (hM : 0 < M) : v < w ↔ (v / M < w / M ∨ v / M = w / M ∧ v % M < w % M) := by
  have e1 := Int.mul_ediv_add_emod v M
  have e2 := Int.mul_ediv_add_emod w M
  have a1 := Int.emod_nonneg v (show M ≠ 0 by omega)
  have a2 := Int.emod_nonneg w (show M ≠ 0 by omega)
  have b1 := Int.emod_lt_of_pos v hM
  have b2 := Int.emod_lt_of_pos w hM
  generalize v / M = q at *
  generalize w / M = p at *
  generalize v % M = r at *
  generalize w % M = s at *
  have h1 : q < p → M * q + M ≤ M * p := fun h => by
    have := Int.mul_le_mul_of_nonneg_left (show q + 1 ≤ p by omega) (show 0 ≤ M by omega)
    rw [Int.mul_add, Int.mul_one] at this; exact this
  have h2 : p < q → M * p + M ≤ M * q := fun h => by
    have := Int.mul_le_mul_of_nonneg_left (show p + 1 ≤ q by omega) (show 0 ≤ M by omega)
    rw [Int.mul_add, Int.mul_one] at this; exact this
  have h3 : q = p → M * q = M * p := fun h => by rw [h]
  rcases Int.lt_trichotomy q p with h | h | h
  · have := h1 h
    omega
  · have := h3 h
    omega
  · have := h2 h
    omega
def lessC : Ctr := { alias := false, of := fun l => match l with
  | [.agg [.int .u64 a, .int .u64 b], .agg [.int .u64 c, .int .u64 d]] => .ex Int fun v => .ex Int fun w => .pre ((a = v / 18446744073709551616 ∧ b = v % 18446744073709551616) ∧ c = w / 18446744073709551616 ∧ d = w % 18446744073709551616) (.fin (.bool (decide (v < w))) [])
  | _ => noC }
def G1 : Env := { ct := fun _ => none, fn := fun _ => none, meth := fun _ _ => none }
theorem G1_ok : EnvOk Try.prog G1 := by
  refine ⟨fun f c h => ?_, fun f vf h => ?_, (fun _ _ _ h => by cases h), by kernel_rfl⟩
  · cases h
  · cases h

theorem less_ok : lessC.ok Try.prog 78 := by
  refine contract Try.func78 v78_is G1_ok 100 lessC fun args k h => ⟨args, ?_⟩
  simp only [lessC] at h
  split at h
  · refine ⟨leL_self _ ⟨⟨trivial, trivial, trivial⟩, ⟨trivial, trivial, trivial⟩, trivial⟩, ?_⟩
    obtain ⟨v, w, ⟨⟨rfl, rfl⟩, rfl, rfl⟩, h⟩ := h
    have h : k (.bool (decide (v < w))) [] := h
    dsimp only [v78, go_sem, Option.bind, Option.map, List.append_nil, Nat.beq, List.cons_append, List.nil_append, List.append_eq, List.map_cons, List.map_nil, ite_self, reduceIte]
    simp only [true_and, and_true, imp_self, implies_true, decide_eq_true_eq, decide_eq_false_iff_not, Nat.reduceAdd, Nat.reduceLeDiff, Bool.not_not, reduceCtorEq, false_imp_iff, Bool.not_eq_true', Bool.not_eq_false', Bool.false_eq_true, and_self, forall_const, ne_eq, not_false_eq_true, Nat.reduceEqDiff]
    have e : decide (v < w) = (decide (v / 18446744073709551616 < w / 18446744073709551616) || decide (v / 18446744073709551616 = w / 18446744073709551616) && decide (v % 18446744073709551616 < w % 18446744073709551616)) := by
      rw [Bool.eq_iff_iff, decide_eq_true_eq, Bool.or_eq_true, Bool.and_eq_true, decide_eq_true_eq, decide_eq_true_eq, decide_eq_true_eq]
      exact less_iff (by decide)
    rw [e] at h
    generalize v / 18446744073709551616 = q at *
    generalize w / 18446744073709551616 = p at *
    generalize v % 18446744073709551616 = r at *
    generalize w % 18446744073709551616 = s at *
    refine ⟨fun hb => ?_, fun hb => ⟨by decide, by decide, fun _ => by decide, fun _ => by decide, fun _ => by decide, fun _ => by decide, fun a b => by rw [decide_eq_false a, decide_eq_true b]; rfl, ans_bool h⟩⟩
    simp only [Bool.and_true, Bool.and_eq_true, decide_eq_true_eq] at hb
    rw [decide_eq_false (show ¬ q < p by omega), decide_eq_false (show ¬ r < s by omega), Bool.and_false] at h
    exact ans_bool h
  · exact h.1.elim

def blkC : Ctr := { alias := false, of := fun l => match l with
  | [.int .i64 x, .int .i64 y, .int .i64 u, .int .i64 v, .int .i64 r] => .pre ((midN x ∧ midN y) ∧ (midN u ∧ midN v) ∧ midN (u - x) ∧ midN (v - y) ∧ midN r) (.fin (.bool (blkF x y u v r)) [])
  | _ => noC }
def G2 : Env := { ct := fun n => match n with | 64 => some sqC | 77 => some tmC | 78 => some lessC | _ => none, fn := fun _ => none, meth := fun _ _ => none }
theorem G2_ct64 : G2.ct 64 = some sqC := rfl
theorem G2_ct77 : G2.ct 77 = some tmC := rfl
theorem G2_ct78 : G2.ct 78 = some lessC := rfl
theorem G2_ok : EnvOk Try.prog G2 := by
  refine ⟨fun f c h => ?_, fun f vf h => ?_, (fun _ _ _ h => by cases h), by kernel_rfl⟩
  · simp only [G2] at h
    split at h
    · cases h; exact ⟨sq_ok, Try.f64, Try.func64, by kernel_rfl, by kernel_rfl⟩
    · cases h; exact ⟨tm_ok, Try.f77, Try.func77, by kernel_rfl, by kernel_rfl⟩
    · cases h; exact ⟨less_ok, Try.f78, Try.func78, by kernel_rfl, by kernel_rfl⟩
    · cases h
  · cases h

theorem cross_sq (a b : Int) : max (a - b) (b - a) * max (a - b) (b - a) = (a - b) * (a - b) := by
  rcases Int.le_total (a - b) (b - a) with h | h
  · rw [Int.max_eq_right h, show b - a = -(a - b) by omega, Int.neg_mul_neg]
  · rw [Int.max_eq_left h]
theorem blk_ok : blkC.ok Try.prog 66 := by
  refine contract Try.func66 v66_is G2_ok 200 blkC fun args k h => ⟨args, ?_⟩
  simp only [blkC] at h
  split at h
  · rename_i x y u v r
    refine ⟨by simp [leL, le], ?_⟩
    obtain ⟨⟨⟨hx, hy⟩, ⟨hu, hv⟩, hux, hvy, hr⟩, h⟩ := h
    have h : k (.bool (blkF x y u v r)) [] := h
    unfold blkF at h
    have a1 := mid_mul hx hu
    have a2 := mid_mul hy hv
    have a3 := mid_mul hx hv
    have a4 := mid_mul hy hu
    have a5 := mid_mul hr hr
    obtain ⟨_, s1, s2⟩ := sq_w hx hy
    have r0 := sq0 r
    have ux : IntKind.i64.wrap (u - x) = u - x := mid_w (by have := hux.1; have := hux.2; omega)
    have vy : IntKind.i64.wrap (v - y) = v - y := mid_w (by have := hvy.1; have := hvy.2; omega)
    dsimp only [v66, G2_ct64, G2_ct77, G2_ct78, sqC, tmC, lessC, go_sem, Option.bind, Option.map, List.append_nil, Nat.beq, List.cons_append, List.nil_append, List.append_eq, List.map_cons, List.map_nil, ite_self, reduceIte]
    simp only [true_and, and_true, imp_self, implies_true, decide_eq_true_eq, decide_eq_false_iff_not, Nat.reduceAdd, Nat.reduceLeDiff, Bool.not_not, reduceCtorEq, false_imp_iff, Bool.not_eq_true', Bool.not_eq_false', Bool.false_eq_true, and_self, forall_const, ne_eq, not_false_eq_true, Nat.reduceEqDiff]
    have e0 : IntKind.i64.wrap (IntKind.i64.wrap (x * u) + IntKind.i64.wrap (y * v)) = x * u + y * v := by
      rw [mid_w (x := x * u) (by omega), mid_w (x := y * v) (by omega), mid_w (by omega)]
    have e1 : IntKind.i64.wrap (r * r) = r * r := mid_w (by omega)
    have e2 : max (IntKind.i64.wrap (IntKind.i64.wrap (x * v) - IntKind.i64.wrap (y * u))) (IntKind.i64.wrap (IntKind.i64.wrap (y * u) - IntKind.i64.wrap (x * v))) = max (x * v - y * u) (y * u - x * v) := by
      rw [mid_w (x := x * v) (by omega), mid_w (x := y * u) (by omega), mid_w (x := x * v - y * u) (by omega), mid_w (x := y * u - x * v) (by omega)]
    simp only [e0, e1, e2, ux, vy]
    refine ⟨⟨hx, hy⟩, fun h1 => ⟨⟨hu, hv⟩, ?_⟩, fun h1 => ⟨fun h2 => ⟨⟨hux, hvy⟩, ?_⟩, fun h2 => ⟨⟨by omega, by omega⟩, ⟨⟨by omega, by omega⟩, by omega, by omega⟩, _, _, ⟨⟨rfl, rfl⟩, rfl, rfl⟩, ?_⟩⟩⟩
    · rw [if_pos h1] at h; exact ans_bool h
    · rw [if_neg h1, if_pos h2] at h; exact ans_bool h
    · rw [if_neg h1, if_neg h2] at h
      rw [cross_sq]
      exact ans_bool h
  · exact h.1.elim

theorem leX_junk (x : SV) : leX x .junk := by cases x <;> trivial
def okW (w : Int × Int) : Prop := (-10000000 ≤ w.1 ∧ w.1 ≤ 20000000) ∧ (-10000000 ≤ w.2 ∧ w.2 ≤ 20000000)
def predH (g : Nat) (cap : List SV) (F : Std → Bool) : Prop := g = 65 ∧ ∃ (t1 t2 t3 t4 t5 : Bool) (b : Brd) (p : Std) (w : Int × Int) (wk : SV), cap = [.xp t1 (encS p), .xp t2 [.int .i64 (p.x - w.1)], .xp t3 [.int .i64 (p.y - w.2)], .xp t4 (encT w), .xp t5 [.int .i64 b.w, .int .i64 b.d, .int .i64 b.c, .int .i64 b.a, .int .i64 b.s, wk]] ∧ okB b ∧ okP p ∧ okW w ∧ F = hitF b p w
def hitC : Ctr := { alias := false, of := fun l => match l with
  | [.agg [.int .i64 qx, .int .i64 qy, .int .i64 qr, .int .i64 qh], .xp _ [.int .i64 px, .int .i64 py, .int .i64 pr, .int .i64 ph], .xp _ [.int .i64 x], .xp _ [.int .i64 y], .xp _ [.int .i64 w1, .int .i64 w2], .xp _ [.int .i64 bw, .int .i64 bd, .int .i64 bc, .int .i64 ba, .int .i64 bs, _]] =>
      .ex Brd fun b => .pre (bs = b.s ∧ x = px - w1 ∧ y = py - w2 ∧ okB b ∧ okP ⟨px, py, pr, ph⟩ ∧ okW (w1, w2) ∧ okP ⟨qx, qy, qr, qh⟩) (.fin (.bool (hitF b ⟨px, py, pr, ph⟩ (w1, w2) ⟨qx, qy, qr, qh⟩)) [])
  | _ => noC }
def G3 : Env := { ct := fun n => match n with | 66 => some blkC | _ => none, fn := fun _ => none, meth := fun _ _ => none }
theorem G3_ct66 : G3.ct 66 = some blkC := rfl
theorem G3_ok : EnvOk Try.prog G3 := by
  refine ⟨fun f c h => ?_, fun f vf h => ?_, (fun _ _ _ h => by cases h), by kernel_rfl⟩
  · simp only [G3] at h
    split at h
    · cases h; exact ⟨blk_ok, Try.f66, Try.func66, by kernel_rfl, by kernel_rfl⟩
    · cases h
  · cases h

theorem hit_ok : hitC.ok Try.prog 65 := by
  refine contract Try.func65 v65_is G3_ok 200 hitC fun args k h => ?_
  simp only [hitC] at h
  split at h
  · rename_i qx qy qr qh t1 px py pr ph t2 x t3 y t4 w1 w2 t5 bw bd bc ba bs wk
    obtain ⟨b, ⟨rfl, rfl, rfl, hb, hp, hw, hq⟩, h⟩ := h
    refine ⟨[.agg [.int .i64 qx, .int .i64 qy, .int .i64 qr, .int .i64 qh], .xp t1 [.int .i64 px, .int .i64 py, .int .i64 pr, .int .i64 ph], .xp t2 [.int .i64 (px - w1)], .xp t3 [.int .i64 (py - w2)], .xp t4 [.int .i64 w1, .int .i64 w2], .xp t5 [.int .i64 bw, .int .i64 bd, .int .i64 bc, .int .i64 ba, .int .i64 b.s, .junk]],
      ⟨leXL_le _ _ (leXL_self _) ⟨trivial, trivial, trivial, trivial, trivial⟩, ⟨id, leXL_self _⟩, ⟨id, leXL_self _⟩, ⟨id, leXL_self _⟩, ⟨id, leXL_self _⟩, ⟨id, ⟨rfl, rfl⟩, ⟨rfl, rfl⟩, ⟨rfl, rfl⟩, ⟨rfl, rfl⟩, ⟨rfl, rfl⟩, leX_junk wk, trivial⟩, trivial⟩, ?_⟩
    have h : k (.bool (hitF b ⟨px, py, pr, ph⟩ (w1, w2) ⟨qx, qy, qr, qh⟩)) [] := h
    dsimp only [v65, G3_ct66, blkC, go_sem, Option.bind, Option.map, List.append_nil, Nat.beq, List.cons_append, List.nil_append, List.append_eq, List.map_cons, List.map_nil, ite_self, reduceIte]
    simp only [true_and, and_true, imp_self, implies_true, decide_eq_true_eq, decide_eq_false_iff_not, Nat.reduceAdd, Nat.reduceLeDiff, Bool.not_not, reduceCtorEq, false_imp_iff, Bool.not_eq_true', Bool.not_eq_false', Bool.false_eq_true, and_self, forall_const, ne_eq, not_false_eq_true, Nat.reduceEqDiff]
    obtain ⟨_, _, _, ⟨_, _⟩, _⟩ := hb
    obtain ⟨_, _, ⟨_, _⟩, _, _⟩ := hp
    obtain ⟨⟨_, _⟩, _, _⟩ := hw
    obtain ⟨⟨_, _⟩, _, ⟨_, _⟩, _, _⟩ := hq
    dsimp only at *
    simp only [mid_w (x := qx - w1) (by omega), mid_w (x := qy - w2) (by omega), mid_w (x := qr + b.s) (by omega)]
    exact ⟨fun _ => ⟨⟨⟨by omega, by omega⟩, ⟨by omega, by omega⟩⟩, ⟨⟨by omega, by omega⟩, ⟨by omega, by omega⟩⟩, ⟨by omega, by omega⟩, ⟨by omega, by omega⟩, ⟨by omega, by omega⟩⟩, ans_bool h⟩
  · exact h.1.elim

def anyHC : Ctr := { alias := false, of := fun l => match l with
  | [.vs _ _ n sz get, .fn (.func g) [] cap] => .ex (List Std) fun l => .ex (Std → Bool) fun F => .pre (lsP 4 encS n sz get l ∧ l.length ≤ 1000000000000 ∧ predH g cap F ∧ ∀ p ∈ l, okP p) (.fin (.bool (l.any F)) [])
  | _ => noC }
def G4 : Env := { ct := fun n => match n with | 65 => some hitC | _ => none, fn := fun n => match n with | 76 => some v76 | _ => none, meth := fun _ _ => none }
theorem G4_ct65 : G4.ct 65 = some hitC := rfl
theorem G4_ct76 : G4.ct 76 = none := rfl
theorem G4_fn76 : G4.fn 76 = some v76 := rfl
theorem G4_ok : EnvOk Try.prog G4 := by
  refine ⟨fun f c h => ?_, fun f vf h => ?_, (fun _ _ _ h => by cases h), by kernel_rfl⟩
  · simp only [G4] at h
    split at h
    · cases h; exact ⟨hit_ok, Try.f65, Try.func65, by kernel_rfl, by kernel_rfl⟩
    · cases h
  · simp only [G4] at h
    split at h
    · cases h; exact ⟨Try.f76, Try.func76, v76_is, Try.f76, Try.func76, by kernel_rfl, by kernel_rfl⟩
    · cases h

theorem anyH_ok : anyHC.ok Try.prog 63 := by
  refine contract Try.func63 v63_is G4_ok 100 anyHC fun args k h => ?_
  simp only [anyHC] at h
  split at h
  · rename_i t z n sz get g cap
    obtain ⟨l, F, ⟨⟨rfl, rfl, hg⟩, hl, ⟨rfl, t1, t2, t3, t4, t5, b, p, w, wk, rfl, hb0, hp0, hw0, rfl⟩, hall⟩, h⟩ := h
    refine ⟨[.vs t z l.length 4 (fun k => encS (l.getD k default)), .fn (.func 65) [] [.xp t1 (encS p), .xp t2 [.int .i64 (p.x - w.1)], .xp t3 [.int .i64 (p.y - w.2)], .xp t4 (encT w), .xp t5 [.int .i64 b.w, .int .i64 b.d, .int .i64 b.c, .int .i64 b.a, .int .i64 b.s, wk]]], ⟨by simpa [le] using hg, by simp [le_fn, bndL, bnd], trivial⟩, ?_⟩
    have h : k (.bool (l.any (hitF b p w))) [] := h
    dsimp only [v63, v76, G4_ct76, G4_fn76, encS, encT, go_sem, Option.bind, Option.map, List.append_nil, Nat.beq, List.cons_append, List.nil_append, List.append_eq, List.map_cons, List.map_nil, ite_self, reduceIte]
    simp only [true_and, and_true, imp_self, implies_true, decide_eq_true_eq, decide_eq_false_iff_not, Nat.reduceAdd, Nat.reduceLeDiff, Bool.not_not, reduceCtorEq, false_imp_iff, Bool.not_eq_true', Bool.not_eq_false', Bool.false_eq_true, and_self, forall_const, ne_eq, not_false_eq_true, Nat.reduceEqDiff]
    obtain ⟨F, hF⟩ : ∃ F, F = hitF b p w := ⟨_, rfl⟩
    rw [← hF] at h
    refine Loop.keep [0, 0, 5, 0] Nat (fun i => [(8, .int .i64 i)]) (fun _ => []) [] (fun i => i ≤ l.length ∧ ∀ j, j < i → F (l.getD j default) = false) (fun i => l.length - i) ?_ ?_
    · refine ⟨0, ⟨Nat.zero_le _, fun j h => by omega⟩, ?_⟩
      dsimp only [go_sem, Option.bind, Option.map, List.append_nil, Nat.beq, List.cons_append, List.nil_append, List.append_eq, List.map_cons, List.map_nil, ite_self, reduceIte]
      simp only [leS_mk, leL_cons, leL_nil, le_junk, le_int, le_bool, le_nil, leLL_nil, leLL_cons, leH_cons, leH_nil, leH1_box, leH1_own, leH1_gone, le_vs, le_agg, le_tup, le_ptr, le_own, le_xp, le_fn, le_opt, le_val, le_elem, le_nil_own, le_nil_vs, leH_ghost, leL_chunk, leXL_id, bnd_int, bnd_bool, bnd_val, bnd_nil, bnd_junk, bnd_vs, bnd_xp, bnd_agg, bnd_tup, bnd_ptr, bnd_own, bnd_elem, bnd_fn, bnd_iface, bnd_opt, bndL_nil, bndL_cons, lenH_cons, lenH_nil, imp_self, implies_true, true_and, and_true]
      simp
    · rintro i ⟨hi, ha⟩
      dsimp only [G4_ct65, hitC, encS, encT, Int.toNat_natCast, go_sem, Option.bind, Option.map, List.append_nil, Nat.beq, List.cons_append, List.nil_append, List.append_eq, List.map_cons, List.map_nil, ite_self, reduceIte]
      simp only [true_and, and_true, imp_self, implies_true, decide_eq_true_eq, decide_eq_false_iff_not, Nat.reduceAdd, Nat.reduceLeDiff, Bool.not_not, reduceCtorEq, false_imp_iff, Bool.not_eq_true', Bool.not_eq_false', Bool.false_eq_true, and_self, forall_const, ne_eq, not_false_eq_true, Nat.reduceEqDiff]
      refine ⟨fun hlt => ⟨⟨by omega, hlt⟩, b, ⟨rfl, hb0, hp0, hw0, hall _ (getD_mem (by omega))⟩, ?_⟩, fun hge => ?_⟩
      simp only [show hitF b ⟨p.x, p.y, p.r, p.h⟩ (w.1, w.2) ⟨(l.getD i default).x, (l.getD i default).y, (l.getD i default).r, (l.getD i default).h⟩ = F (l.getD i default) by rw [hF]]
      refine ⟨fun hb => ?_, fun hb => ?_⟩
      · have e : l.any F = true := List.any_eq_true.2 ⟨_, getD_mem (by omega : i < l.length), hb⟩
        have e2 : decide (0 ≤ (i : Int)) = true := decide_eq_true (by omega)
        rw [e2]
        exact ans_bool (by rw [e] at h; exact h)
      · refine ⟨i + 1, ⟨by omega, fun j hj => ?_⟩, by omega, ?_⟩
        · rcases Nat.lt_or_ge j i with h' | h'
          · exact ha j h'
          · obtain rfl : j = i := by omega
            exact hb
        · simp only [w_succ (i := i) (n := l.length) (by omega) (by omega), leS_mk, leL_cons, leL_nil, le_junk, le_int, le_bool, le_nil, leLL_nil, leLL_cons, leH_cons, leH_nil, leH1_box, leH1_own, leH1_gone, le_vs, le_agg, le_tup, le_ptr, le_own, le_xp, le_fn, le_opt, le_val, le_elem, le_nil_own, le_nil_vs, leH_ghost, leL_chunk, leXL_id, bnd_int, bnd_bool, bnd_val, bnd_nil, bnd_junk, bnd_vs, bnd_xp, bnd_agg, bnd_tup, bnd_ptr, bnd_own, bnd_elem, bnd_fn, bnd_iface, bnd_opt, bndL_nil, bndL_cons, lenH_cons, lenH_nil, imp_self, implies_true, true_and, and_true] <;> simp
      · have e : l.any F = false := List.any_eq_false.2 fun x hx => by
          obtain ⟨j, hj, rfl⟩ := mem_getD hx
          rw [ha j (by omega)]; simp
        exact ans_bool (by rw [e] at h; exact h)
  · exact h.1.elim

def rchC : Ctr := { alias := false, of := fun l => match l with
  | [.agg [.int .i64 w, .int .i64 d, .int .i64 c, .int .i64 a, .int .i64 s, .vs _ _ n sz get], .vs _ _ n' sz' get', .agg [.int .i64 w1, .int .i64 w2], .int .i64 i] => .ex Brd fun b => .ex (List Std) fun l => .pre (brdP b w d c a s n sz get ∧ lsP 4 encS n' sz' get' l ∧ okB b ∧ (∀ p ∈ l, okP p) ∧ l.length ≤ 200 ∧ okW (w1, w2) ∧ 0 ≤ i ∧ i < l.length) (.fin (.bool (reachF b l (w1, w2) (l.getD i.toNat default))) [])
  | _ => noC }
def G5 : Env := { ct := fun n => match n with | 64 => some sqC | 63 => some anyHC | _ => none, fn := fun _ => none, meth := fun _ _ => none }
theorem G5_ct64 : G5.ct 64 = some sqC := rfl
theorem G5_ct63 : G5.ct 63 = some anyHC := rfl
theorem G5_ok : EnvOk Try.prog G5 := by
  refine ⟨fun f c h => ?_, fun f vf h => ?_, (fun _ _ _ h => by cases h), by kernel_rfl⟩
  · simp only [G5] at h
    split at h
    · cases h; exact ⟨sq_ok, Try.f64, Try.func64, by kernel_rfl, by kernel_rfl⟩
    · cases h; exact ⟨anyH_ok, Try.f63, Try.func63, by kernel_rfl, by kernel_rfl⟩
    · cases h
  · cases h

theorem rch_ok : rchC.ok Try.prog 45 := by
  refine contract Try.func45 v45_is G5_ok 200 rchC fun args k h => ?_
  simp only [rchC] at h
  split at h
  · rename_i w d c a s t z n sz get t' z' n' sz' get' w1 w2 i
    obtain ⟨b, l, ⟨hbp, ⟨rfl, rfl, hg⟩, hb, hl, hlen, hw, hi1, hi2⟩, h⟩ := h
    refine ⟨[.agg (encB t z b), .vs t' z' l.length 4 (fun k => encS (l.getD k default)), .agg [.int .i64 w1, .int .i64 w2], .int .i64 i], ⟨brd_le hbp, by simpa [le] using hg, leXL_le _ _ (leXL_self _) ⟨trivial, trivial, trivial⟩, ⟨rfl, rfl⟩, trivial⟩, ?_⟩
    obtain ⟨i, rfl⟩ := Int.eq_ofNat_of_zero_le hi1
    have h : k (.bool (reachF b l (w1, w2) (l.getD i default))) [] := h
    dsimp only [v45, G5_ct64, G5_ct63, sqC, anyHC, encB, encT, encS, Int.toNat_natCast, go_sem, Option.bind, Option.map, List.append_nil, Nat.beq, List.cons_append, List.nil_append, List.append_eq, List.map_cons, List.map_nil, ite_self, reduceIte]
    simp only [true_and, and_true, imp_self, implies_true, decide_eq_true_eq, decide_eq_false_iff_not, Nat.reduceAdd, Nat.reduceLeDiff, Bool.not_not, reduceCtorEq, false_imp_iff, Bool.not_eq_true', Bool.not_eq_false', Bool.false_eq_true, and_self, forall_const, ne_eq, not_false_eq_true, Nat.reduceEqDiff]
    have hp : okP (l.getD i default) := hl _ (getD_mem (by omega))
    have hb' := hb
    have hp' := hp
    have hw' := hw
    obtain ⟨_, _, _, ⟨_, _⟩, ⟨_, _⟩, _⟩ := hb'
    obtain ⟨⟨_, _⟩, _, ⟨_, _⟩, _, _⟩ := hp'
    obtain ⟨⟨_, _⟩, _, _⟩ := hw'
    unfold reachF at h
    generalize hpe : l.getD i default = p at *
    dsimp only at *
    have m : midN (b.a + p.r) := ⟨by omega, by omega⟩
    have e := mid_mul m m
    simp only [mid_w (x := p.x - w1) (by omega), mid_w (x := p.y - w2) (by omega), mid_w (x := b.a + p.r) (by omega), mid_w (x := (b.a + p.r) * (b.a + p.r)) (by omega)]
    refine ⟨⟨by omega, by omega⟩, ⟨⟨by omega, by omega⟩, ⟨by omega, by omega⟩⟩, fun hc => ?_, fun hc => ⟨l, hitF b p (w1, w2), ⟨lsP_self, by omega, ⟨rfl, _, _, _, _, _, b, p, (w1, w2), _, rfl, hb, hp, hw, rfl⟩, hl⟩, ?_⟩⟩
    · rw [decide_eq_true hc] at h; exact ans_bool h
    · rw [decide_eq_false hc] at h; exact ans_bool h
  · exact h.1.elim
end Go.Proofs.Ytojaibhjfeojjaa

/- Layouts, walked: Reach, Blocked, Accept. -/
/- Layouts, walked: Reach, Blocked, Accept. -/
set_option linter.all false
namespace Go.Proofs.Ytojaibhjfeojjaa
open Go Go.Vx
set_option maxRecDepth 100000
set_option maxHeartbeats 4000000

def v17 : VF := { ntmps := 45, res := [.tmp 6, .tmp 7], body :=
 (.seq (.region [u1 3 .box [.tm 0],
 u1 6 .mov [.cn .nil],
 u1 7 .mov [.cn (.int .i64 0)]])
 (.seq (.seq (.region [u1 12 (.load true 6) [.tm 3],
 u1 13 .mov [.tm 1],
 u1 14 (.call 44) [.tm 12, .tm 13],
 u1 8 .mov [.tm 14]])
 (.seq (.region [u1 15 .mov [.tm 8],
 u1 16 (.cmp .neq) [.tm 15, .cn (.int .i64 0)]])
 (.cond (.tm 16) (.seq (.region [u1 17 .mov [.tm 8],
 u1 6 .mov [.cn .nil],
 u1 7 .mov [.tm 17]])
 .ret)
  .skip)))
 (.seq (.seq (.region [u1 18 .mov [.tm 2],
 u1 19 (.cmp .lss) [.tm 18, .cn (.int .i64 0)],
 u1 20 .mov [.tm 19],
 u2 21 20 false .mov [.tm 2],
 u2 22 20 false .mov [.tm 1],
 u2 23 20 false .len [.tm 22],
 u2 24 20 false (.cmp .geq) [.tm 21, .tm 23],
 u1 25 .or [.tm 20, .tm 24]])
 (.cond (.tm 25) (.seq (.region [u1 6 .mov [.cn .nil],
 u1 7 .mov [.cn (.int .i64 4)]])
 .ret)
  .skip))
 (.seq (.region [u1 9 .mov [.cn .nil]])
 (.seq (.seq (.region [u1 26 (.fieldAddr 5) [.tm 3],
 u1 27 (.load false 1) [.tm 26],
 u1 28 .len [.tm 27],
 u1 29 .mov [.cn (.int .i64 0)]])
 (.block 0 (.loop (.seq (.region [u1 30 (.cmp .lss) [.tm 29, .tm 28]])
 (.seq (.cond (.tm 30) .skip
  (.exit 0))
 (.seq (.block 1 (.seq (.region [u1 31 .mov [.tm 29],
 u1 32 (.idxAddr 2) [.tm 27, .tm 29],
 u1 33 (.load true 2) [.tm 32],
 u1 11 (.alloc [(.int .i64 0), (.int .i64 0)]) [],
 u1 10 .mov [.tm 31],
 u0 (.store 2) [.tm 11, .tm 33]])
 (.seq (.region [u1 34 (.load true 6) [.tm 3],
 u1 35 .mov [.tm 1],
 u1 36 (.load true 2) [.tm 11],
 u1 37 .mov [.tm 2],
 u1 38 (.call 45) [.tm 34, .tm 35, .tm 36, .tm 37]])
 (.cond (.tm 38) (.region [u1 39 .mov [.tm 9],
 u1 40 .mov [.tm 10],
 u1 41 (.buildSlice 1 1 [(.int .i64 0)] [(0, 1)]) [.tm 40],
 u1 42 (.append 1 8 [(.int .i64 0)]) [.tm 39, .tm 41],
 u1 9 .mov [.tm 42]])
  .skip))))
 (.region [u1 43 (.ari .add) [.tm 29, .cn (.int .i64 1)],
 u1 29 .mov [.tm 43]])))))))
 (.seq (.region [u1 44 .mov [.tm 9],
 u1 6 .mov [.tm 44],
 u1 7 .mov [.cn (.int .i64 0)]])
 .ret)))))) }
theorem v17_is : vfunc Try.prog Try.f17 = some v17 := by kernel_rfl
def encI (n : Nat) : List SV := [.int .i64 n]
/-- A list of numbers that a function made. -/
def lsR (l : List Nat) : SV := .vs true (decide (l.length = 0)) l.length 1 (fun k => encI (l.getD k default))
theorem ans_lin {k : SV → List HO → Prop} {al : Bool} {hp : List HO} {e : Int} (h : k (.tup [lsR [], .int .i64 e]) []) : answers al k (.tup [.nil, .int .i64 e]) hp :=
  ans_le h (by simp [expo, view, viewL, lsR, le, leL]) (fun _ => by simp [lsR, freshS, freshL])
theorem getD_app {α : Type} [Inhabited α] {l : List α} {x : α} {k : Nat} : (l ++ [x]).getD k default = if k < l.length then l.getD k default else if k = l.length then x else default := by
  rw [List.getD_eq_getElem?_getD, List.getElem?_append]
  split
  · rfl
  · split
    · rename_i h1 h2; subst h2; simp
    · rename_i h1 h2
      have : ¬ k - l.length = 0 := by omega
      simp [this]
/-- What is there below i. -/
def part (F : Nat → Bool) (i : Nat) : List Nat := (List.range i).filter F
theorem part_t {F : Nat → Bool} {i : Nat} (h : F i = true) : part F (i + 1) = part F i ++ [i] := by simp [part, List.range_succ, h]
theorem part_f {F : Nat → Bool} {i : Nat} (h : F i = false) : part F (i + 1) = part F i := by simp [part, List.range_succ, h]
theorem part_le (F : Nat → Bool) (i : Nat) : (part F i).length ≤ i := by
  have := List.length_filter_le F (List.range i)
  rw [List.length_range] at this; exact this

def reaC : Ctr := { alias := false, of := fun l => match l with
  | [.agg [.int .i64 w, .int .i64 d, .int .i64 c, .int .i64 a, .int .i64 s, .vs _ _ n sz get], .vs _ _ n' sz' get', .int .i64 i] => .ex Brd fun b => .ex (List Std) fun l => .pre (brdP b w d c a s n sz get ∧ lsP 4 encS n' sz' get' l ∧ l.length ≤ 1000000000000) (.fin (.tup [lsR (reachR b l i).1, .int .i64 (reachR b l i).2]) [])
  | _ => noC }
def H0 : Env := { ct := fun n => match n with | 44 => some chC | 45 => some rchC | _ => none, fn := fun _ => none, meth := fun _ _ => none }
theorem H0_ct44 : H0.ct 44 = some chC := rfl
theorem H0_ct45 : H0.ct 45 = some rchC := rfl
theorem H0_ok : EnvOk Try.prog H0 := by
  refine ⟨fun f c h => ?_, fun f vf h => ?_, (fun _ _ _ h => by cases h), by kernel_rfl⟩
  · simp only [H0] at h
    split at h
    · cases h; exact ⟨ch_ok, Try.f44, Try.func44, by kernel_rfl, by kernel_rfl⟩
    · cases h; exact ⟨rch_ok, Try.f45, Try.func45, by kernel_rfl, by kernel_rfl⟩
    · cases h
  · cases h

theorem okB_wk {b : Brd} (hb : okB b) {k : Nat} (h : k < b.wk.length) : okW (b.wk.getD k default) := hb.2.2.2.2.2.2 _ (getD_mem h)
theorem rea_ok : reaC.ok Try.prog 17 := by
  refine contract Try.func17 v17_is H0_ok 300 reaC fun args k h => ?_
  simp only [reaC] at h
  split at h
  · rename_i w d c a s t z n sz get t' z' n' sz' get' i
    obtain ⟨b, l, ⟨hbp, ⟨rfl, rfl, hg⟩, hbig⟩, h⟩ := h
    refine ⟨[.agg (encB t z b), .vs t' z' l.length 4 (fun k => encS (l.getD k default)), .int .i64 i], ⟨brd_le hbp, by simpa [le] using hg, ⟨rfl, rfl⟩, trivial⟩, ?_⟩
    have h : k (.tup [lsR (reachR b l i).1, .int .i64 (reachR b l i).2]) [] := h
    dsimp only [v17, H0_ct44, chC, encB, encT, encS, go_sem, Option.bind, Option.map, List.append_nil, Nat.beq, List.cons_append, List.nil_append, List.append_eq, List.map_cons, List.map_nil, ite_self, reduceIte]
    simp only [true_and, and_true, imp_self, implies_true, decide_eq_true_eq, decide_eq_false_iff_not, Nat.reduceAdd, Nat.reduceLeDiff, Bool.not_not, reduceCtorEq, false_imp_iff, Bool.not_eq_true', Bool.not_eq_false', Bool.false_eq_true, and_self, forall_const, ne_eq, not_false_eq_true, Nat.reduceEqDiff]
    unfold reachR at h
    refine ⟨b, l, ⟨brdP_self b, lsP_self⟩, fun hc => ?_, fun hc => ⟨fun hi => ?_, fun hi => ?_⟩⟩
    · rw [if_pos hc] at h; exact ans_lin h
    · simp only [Bool.or_eq_true, decide_eq_true_eq] at hi
      rw [if_neg (by omega), if_pos hi] at h; exact ans_lin h
    · simp only [Bool.or_eq_false_iff, decide_eq_false_iff_not] at hi
      rw [if_neg (by omega), if_neg (by omega)] at h
      obtain ⟨hb, hl, hlen⟩ := chkF_ok hc
      obtain ⟨i, rfl⟩ := Int.eq_ofNat_of_zero_le (show 0 ≤ i by omega)
      simp only [Int.toNat_natCast] at h
      obtain ⟨F, hF⟩ : ∃ F, F = fun k => reachF b l (b.wk.getD k default) (l.getD i default) := ⟨_, rfl⟩
      have hR : reachL b l (l.getD i default) = part F b.wk.length := by rw [hF]; rfl
      rw [hR] at h
      have h8 := hb.2.2.2.2.2.1
      refine Loop.keep [1, 0, 0, 5, 17, 0, 0] Nat (fun j => [(9, .own 1 0 (part F j).length 1), (29, .int .i64 j)]) (fun j => [(1, .own (decide ((part F j).length = 0)) 1 (part F j).length (fun k => encI ((part F j).getD k default)))]) [.gone] (fun j => j ≤ b.wk.length) (fun j => b.wk.length - j) ?_ ?_
      · refine ⟨0, Nat.zero_le _, ?_⟩
        dsimp only [go_sem, Option.bind, Option.map, List.append_nil, Nat.beq, List.cons_append, List.nil_append, List.append_eq, List.map_cons, List.map_nil, ite_self, reduceIte]
        simp only [leS_mk, leL_cons, leL_nil, le_junk, le_int, le_bool, le_nil, leLL_nil, leLL_cons, leH_cons, leH_nil, leH1_box, leH1_own, leH1_gone, le_vs, le_agg, le_tup, le_ptr, le_own, le_xp, le_fn, le_opt, le_val, le_elem, le_nil_own, le_nil_vs, leH_ghost, leL_chunk, leXL_id, bnd_int, bnd_bool, bnd_val, bnd_nil, bnd_junk, bnd_vs, bnd_xp, bnd_agg, bnd_tup, bnd_ptr, bnd_own, bnd_elem, bnd_fn, bnd_iface, bnd_opt, bndL_nil, bndL_cons, lenH_cons, lenH_nil, imp_self, implies_true, true_and, and_true]
        simp [part]
      · rintro j hj
        dsimp only [H0_ct45, rchC, encT, encS, encI, Int.toNat_natCast, go_sem, Option.bind, Option.map, List.append_nil, Nat.beq, List.cons_append, List.nil_append, List.append_eq, List.map_cons, List.map_nil, ite_self, reduceIte]
        simp only [true_and, and_true, imp_self, implies_true, decide_eq_true_eq, decide_eq_false_iff_not, Nat.reduceAdd, Nat.reduceLeDiff, Bool.not_not, reduceCtorEq, false_imp_iff, Bool.not_eq_true', Bool.not_eq_false', Bool.false_eq_true, and_self, forall_const, ne_eq, not_false_eq_true, Nat.reduceEqDiff]
        refine ⟨fun hlt => ?_, fun hge => ?_⟩
        · refine ⟨⟨by omega, by omega⟩, b, l, ⟨brdP_self b, lsP_self, hb, hl, hlen, okB_wk hb (by omega), by omega, by omega⟩, fun ht => ?_, fun ht => ?_⟩
          · have hFj : F j = true := by rw [hF]; exact ht
            have hpl := part_le F j
            refine ⟨by decide, ⟨by unfold capOk; omega, fun q hq => match q, hq with | 0, _ => ⟨rfl, trivial, trivial⟩⟩, j + 1, by omega, by omega, ?_⟩
            rw [part_t hFj]
            simp only [List.length_append, List.length_singleton, getD_app, w_succ (i := j) (n := 1000000000000) (by omega) (by omega), leS_mk, leL_cons, leL_nil, le_junk, le_int, le_bool, le_nil, leLL_nil, leLL_cons, leH_cons, leH_nil, leH1_box, leH1_own, leH1_gone, le_vs, le_agg, le_tup, le_ptr, le_own, le_xp, le_fn, le_opt, le_val, le_elem, le_nil_own, le_nil_vs, leH_ghost, leL_chunk, leXL_id, bnd_int, bnd_bool, bnd_val, bnd_nil, bnd_junk, bnd_vs, bnd_xp, bnd_agg, bnd_tup, bnd_ptr, bnd_own, bnd_elem, bnd_fn, bnd_iface, bnd_opt, bndL_nil, bndL_cons, lenH_cons, lenH_nil, imp_self, implies_true, true_and, and_true]
            refine ⟨by omega, by simp, fun q hq => ?_⟩
            rcases Nat.lt_or_ge q (part F j).length with h' | h'
            · rw [if_pos h', if_pos h']; exact leL_self [.int _ _] ⟨trivial, trivial⟩
            · obtain rfl : q = (part F j).length := by omega
              rw [if_neg (by omega), if_neg (by omega), if_pos rfl, Nat.sub_self]
              exact leL_self [.int _ _] ⟨trivial, trivial⟩
          · have hFj : F j = false := by rw [hF]; exact ht
            refine ⟨j + 1, by omega, by omega, ?_⟩
            rw [part_f hFj]
            simp only [w_succ (i := j) (n := 1000000000000) (by omega) (by omega), leS_mk, leL_cons, leL_nil, le_junk, le_int, le_bool, le_nil, leLL_nil, leLL_cons, leH_cons, leH_nil, leH1_box, leH1_own, leH1_gone, le_vs, le_agg, le_tup, le_ptr, le_own, le_xp, le_fn, le_opt, le_val, le_elem, le_nil_own, le_nil_vs, leH_ghost, leL_chunk, leXL_id, bnd_int, bnd_bool, bnd_val, bnd_nil, bnd_junk, bnd_vs, bnd_xp, bnd_agg, bnd_tup, bnd_ptr, bnd_own, bnd_elem, bnd_fn, bnd_iface, bnd_opt, bndL_nil, bndL_cons, lenH_cons, lenH_nil, imp_self, implies_true, true_and, and_true]
            omega
        · obtain rfl : j = b.wk.length := by omega
          refine ans_le (show k _ [] from h) ?_ ?_
          · dsimp only [lsR, expo, encI, go_sem, Option.bind, Option.map, List.append_nil, Nat.beq, List.cons_append, List.nil_append, List.append_eq, List.map_cons, List.map_nil, ite_self, reduceIte]
            simp only [leS_mk, leL_cons, leL_nil, le_junk, le_int, le_bool, le_nil, leLL_nil, leLL_cons, leH_cons, leH_nil, leH1_box, leH1_own, leH1_gone, le_vs, le_agg, le_tup, le_ptr, le_own, le_xp, le_fn, le_opt, le_val, le_elem, le_nil_own, le_nil_vs, leH_ghost, leL_chunk, leXL_id, bnd_int, bnd_bool, bnd_val, bnd_nil, bnd_junk, bnd_vs, bnd_xp, bnd_agg, bnd_tup, bnd_ptr, bnd_own, bnd_elem, bnd_fn, bnd_iface, bnd_opt, bndL_nil, bndL_cons, lenH_cons, lenH_nil, imp_self, implies_true, true_and, and_true]
          · intro _; simp [freshS, freshL, encI, lsR]
  · exact h.1.elim

def bkdC : Ctr := { alias := false, of := fun l => match l with
  | [.agg [.int .i64 w, .int .i64 d, .int .i64 c, .int .i64 a, .int .i64 s, .vs _ _ n sz get], .vs _ _ n' sz' get'] => .ex Brd fun b => .ex (List Std) fun l => .pre (brdP b w d c a s n sz get ∧ lsP 4 encS n' sz' get' l) (.fin (.tup [lsR (blockedR b l).1, .int .i64 (blockedR b l).2]) [])
  | _ => noC }
def accC : Ctr := { alias := false, of := fun l => match l with
  | [.agg [.int .i64 w, .int .i64 d, .int .i64 c, .int .i64 a, .int .i64 s, .vs _ _ n sz get], .vs _ _ n' sz' get'] => .ex Brd fun b => .ex (List Std) fun l => .pre (brdP b w d c a s n sz get ∧ lsP 4 encS n' sz' get' l) (.fin (.tup [.bool (acceptR b l).1, .int .i64 (acceptR b l).2]) [])
  | _ => noC }
end Go.Proofs.Ytojaibhjfeojjaa

/- Layouts in plain Lean: what the plans are. -/
/- Layouts in plain Lean: what the plans are. -/
set_option linter.all false
namespace Go.Proofs.Ytojaibhjfeojjaa
open Go Go.Vx

def okF (f : Ft) : Prop := (1 ≤ f.1 ∧ f.1 ≤ 1000000) ∧ 1 ≤ f.2 ∧ f.2 ≤ 12000000
def okPl (p : Plan) : Prop := (0 ≤ p.depth ∧ p.depth ≤ 1000000000) ∧ (0 ≤ p.rows ∧ p.rows ≤ 1000) ∧ (0 ≤ p.first ∧ p.first ≤ 1000)

def ltP (p q : Plan) : Prop := p.depth < q.depth ∨ p.depth = q.depth ∧ p.rows < q.rows
def leP (p q : Plan) : Prop := ltP p q ∨ p.depth = q.depth ∧ p.rows = q.rows ∧ p.first ≤ q.first
theorem leP_self (p : Plan) : leP p p := .inr ⟨rfl, rfl, Int.le_refl _⟩
theorem leP_trans {p q r : Plan} (h1 : leP p q) (h2 : leP q r) : leP p r := by unfold leP ltP at *; omega
theorem better_iff {p out : Plan} (h : out.is = true) : betterF p out = true ↔ ltP p out := by
  simp only [betterF, h, Bool.not_true, Bool.false_or, Bool.or_eq_true, Bool.and_eq_true, decide_eq_true_eq]; rfl

/-- A row's width and depth, from so much on. -/
def wideG (b : Brd) (w : Int) (l : List Ft) : Int := l.foldl (fun w f => w + (b.c + 2 * f.1)) w
def deepG (m : Int) (l : List Ft) : Int := l.foldl (fun m f => max m (2 * f.1)) m
theorem wideG_le {b : Brd} (hc : 0 ≤ b.c) : ∀ (l : List Ft) (w : Int), (∀ f ∈ l, 1 ≤ f.1) → w ≤ wideG b w l
  | [], w, _ => Int.le_refl _
  | f :: l, w, h => by
    have h1 := h f List.mem_cons_self
    have := wideG_le hc l (w + (b.c + 2 * f.1)) fun g hg => h g (List.mem_cons_of_mem _ hg)
    unfold wideG at *
    rw [List.foldl_cons]; omega
theorem deepG_rng : ∀ (l : List Ft) (m : Int), (∀ f ∈ l, okF f) → 0 ≤ m → m ≤ 2000000 → m ≤ deepG m l ∧ deepG m l ≤ 2000000
  | [], m, _, _, h => ⟨Int.le_refl _, h⟩
  | f :: l, m, h, h0, h1 => by
    obtain ⟨⟨f1, f2⟩, _⟩ := h f List.mem_cons_self
    have := deepG_rng l (max m (2 * f.1)) (fun g hg => h g (List.mem_cons_of_mem _ hg)) (by omega) (by omega)
    unfold deepG at *
    rw [List.foldl_cons]; omega

/-- What the loop finds: one of the first rows that are possible, and none is better. -/
theorem bestG_spec {b : Brd} (hc : 0 ≤ b.c) : ∀ (l : List Ft) (ps : List Plan) (wide deep : Int) (k : Nat) (out : Plan), (∀ f ∈ l, 1 ≤ f.1) → (out.is = true → out.first ≤ k) →
    (bestG b l ps wide deep k out = out ∨ ∃ j, j < l.length ∧ wideG b wide (l.take (j + 1)) ≤ b.w ∧ (ps.getD j default).is = true ∧ bestG b l ps wide deep k out = candF b (deepG deep (l.take (j + 1))) (ps.getD j default) (k + j)) ∧
    (out.is = true → (bestG b l ps wide deep k out).is = true ∧ leP (bestG b l ps wide deep k out) out) ∧
    (∀ j, j < l.length → wideG b wide (l.take (j + 1)) ≤ b.w → (ps.getD j default).is = true → (bestG b l ps wide deep k out).is = true ∧ leP (bestG b l ps wide deep k out) (candF b (deepG deep (l.take (j + 1))) (ps.getD j default) (k + j)))
  | [], ps, wide, deep, k, out, _, _ => ⟨.inl rfl, fun h => ⟨h, leP_self _⟩, fun j h => absurd h (Nat.not_lt_zero _)⟩
  | f :: l, ps, wide, deep, k, out, hl, hk => by
    have hl' : ∀ g ∈ l, 1 ≤ g.1 := fun g hg => hl g (List.mem_cons_of_mem _ hg)
    have hw : ∀ j, wideG b wide ((f :: l).take (j + 1)) = wideG b (wide + (b.c + 2 * f.1)) (l.take j) := fun j => rfl
    have hd : ∀ j, deepG deep ((f :: l).take (j + 1)) = deepG (max deep (2 * f.1)) (l.take j) := fun j => rfl
    have hp : ps.headD default = ps.getD 0 default := by cases ps <;> rfl
    have ht : ∀ j, ps.tail.getD j default = ps.getD (j + 1) default := fun j => by cases ps <;> rfl
    rw [bestG]
    split
    · rename_i hb
      refine ⟨.inl rfl, fun h => ⟨h, leP_self _⟩, fun j hj h1 => ?_⟩
      have := wideG_le hc (l.take j) (wide + (b.c + 2 * f.1)) fun g hg => hl' g (List.mem_of_mem_take hg)
      rw [hw] at h1; omega
    · rename_i hb
      obtain ⟨C, hC⟩ : ∃ C, C = candF b (max deep (2 * f.1)) (ps.headD default) k := ⟨_, rfl⟩
      obtain ⟨o, ho⟩ : ∃ o, o = (if (ps.headD default).is = false then out else if betterF C out then C else out) := ⟨_, rfl⟩
      rw [← hC, ← ho]
      have hCi : C.is = true := by rw [hC]; rfl
      have hCf : C.first = (k : Int) + 1 := by rw [hC]; rfl
      have hok : o.is = true → o.first ≤ ((k + 1 : Nat) : Int) := by
        rw [ho]
        split
        · intro h; have := hk h; omega
        · split
          · intro _; rw [hCf]; omega
          · intro h; have := hk h; omega
      have hoo : out.is = true → o.is = true ∧ leP o out := by
        intro h
        rw [ho]
        split
        · exact ⟨h, leP_self _⟩
        · split
          · rename_i hbt
            exact ⟨hCi, .inl ((better_iff h).1 hbt)⟩
          · exact ⟨h, leP_self _⟩
      have hoC : (ps.headD default).is = true → o.is = true ∧ leP o C := by
        intro h
        rw [ho, if_neg (by rw [h]; simp)]
        split
        · exact ⟨hCi, leP_self _⟩
        · rename_i hbt
          cases hi : out.is with
          | false => exact absurd (by simp [betterF, hi]) hbt
          | true =>
            refine ⟨rfl, ?_⟩
            have h1 : ¬ ltP C out := fun hh => hbt ((better_iff hi).2 hh)
            have h2 := hk hi
            unfold leP ltP at *
            rw [hCf]; omega
      obtain ⟨s1, s2, s3⟩ := bestG_spec hc l ps.tail (wide + (b.c + 2 * f.1)) (max deep (2 * f.1)) (k + 1) o hl' hok
      refine ⟨?_, fun h => ?_, fun j hj h1 h2 => ?_⟩
      · rcases s1 with e | ⟨j, h1, h2, h3, h4⟩
        · rw [e, ho]
          split
          · exact .inl rfl
          · rename_i hi
            split
            · right
              refine ⟨0, by simp, ?_, ?_, ?_⟩
              · rw [hw]; show wide + (b.c + 2 * f.1) ≤ b.w; omega
              · rw [← hp]; simpa using hi
              · rw [hC, ← hp]; rfl
            · exact .inl rfl
        · right
          refine ⟨j + 1, by simpa using h1, by rw [hw]; exact h2, by rw [← ht]; exact h3, ?_⟩
          rw [h4, hd, ht, show k + 1 + j = k + (j + 1) by omega]
      · obtain ⟨a1, a2⟩ := hoo h
        obtain ⟨b1, b2⟩ := s2 a1
        exact ⟨b1, leP_trans b2 a2⟩
      · cases j with
        | zero =>
          rw [← hp] at h2
          obtain ⟨a1, a2⟩ := hoC h2
          obtain ⟨b1, b2⟩ := s2 a1
          rw [hd, ← hp]
          refine ⟨b1, leP_trans b2 ?_⟩
          rw [hC] at a2; exact a2
        | succ j =>
          rw [hw] at h1
          rw [hd, ← ht, show k + (j + 1) = k + 1 + j by omega]
          exact s3 j (by simpa using hj) h1 (by rw [ht]; exact h2)

theorem plans_len (b : Brd) : ∀ l : List Ft, (plansF b l).length = l.length + 1
  | [] => rfl
  | f :: l => by rw [plansF, List.length_cons, plans_len b l, List.length_cons]
theorem plans_drop (b : Brd) : ∀ (l : List Ft) (j : Nat), j ≤ l.length → (plansF b l).drop j = plansF b (l.drop j)
  | l, 0, _ => rfl
  | [], j + 1, h => by simp at h
  | f :: l, j + 1, h => by
    rw [plansF, List.drop_succ_cons, List.drop_succ_cons]
    exact plans_drop b l j (by simpa using h)
theorem plans_get (b : Brd) {l : List Ft} {j : Nat} (h : j ≤ l.length) : (plansF b l).getD j default = headP b (l.drop j) := by
  unfold headP
  rw [← plans_drop b l j h]
  rw [List.getD_eq_getElem?_getD]
  have : j < (plansF b l).length := by rw [plans_len]; omega
  rw [List.drop_eq_getElem_cons this, List.getElem?_eq_getElem this]; rfl
theorem plans_nil (b : Brd) : headP b [] = ⟨0, 0, 0, true⟩ := rfl
/-- The best division of some pipes: its first row. -/
theorem head_spec {b : Brd} (hc : 0 ≤ b.c) {l : List Ft} (h0 : 0 < l.length) (hl : ∀ f ∈ l, 1 ≤ f.1) :
    ((headP b l).is = false ∧ headP b l = ⟨0, 0, 0, false⟩ ∨ ∃ j, j < l.length ∧ wideG b (-b.c) (l.take (j + 1)) ≤ b.w ∧ (headP b (l.drop (j + 1))).is = true ∧ headP b l = candF b (deepG 0 (l.take (j + 1))) (headP b (l.drop (j + 1))) j) ∧
    ∀ j, j < l.length → wideG b (-b.c) (l.take (j + 1)) ≤ b.w → (headP b (l.drop (j + 1))).is = true → (headP b l).is = true ∧ leP (headP b l) (candF b (deepG 0 (l.take (j + 1))) (headP b (l.drop (j + 1))) j) := by
  cases l with
  | nil => simp at h0
  | cons f l =>
    have e : headP b (f :: l) = bestG b (f :: l) (plansF b l) (-b.c) 0 0 ⟨0, 0, 0, false⟩ := rfl
    obtain ⟨s1, _, s3⟩ := bestG_spec hc (f :: l) (plansF b l) (-b.c) 0 0 ⟨0, 0, 0, false⟩ hl (fun h => by cases h)
    rw [← e] at s1 s3
    have hg : ∀ j, j < (f :: l).length → (plansF b l).getD j default = headP b ((f :: l).drop (j + 1)) := fun j hj => plans_get b (by simpa using Nat.lt_succ_iff.1 hj)
    refine ⟨?_, fun j hj h1 h2 => ?_⟩
    · rcases s1 with e1 | ⟨j, hj, h1, h2, h3⟩
      · left; rw [e1]; exact ⟨rfl, rfl⟩
      · right
        rw [hg j hj] at h2 h3
        rw [Nat.zero_add] at h3
        exact ⟨j, hj, h1, h2, h3⟩
    · have := s3 j hj h1 (by rw [hg j hj]; exact h2)
      rw [hg j hj, Nat.zero_add] at this
      exact this
theorem head_ok {b : Brd} (hc : 0 ≤ b.c ∧ b.c ≤ 1000000) : ∀ (n : Nat) (l : List Ft), l.length = n → n ≤ 200 → (∀ f ∈ l, okF f) → (0 ≤ (headP b l).depth ∧ (headP b l).depth ≤ 3000000 * n) ∧ (0 ≤ (headP b l).rows ∧ (headP b l).rows ≤ n) ∧ (0 ≤ (headP b l).first ∧ (headP b l).first ≤ n) := by
  intro n
  induction n using Nat.strongRecOn with
  | ind n ih =>
    intro l hn h2 hl
    rcases Nat.eq_zero_or_pos n with h0 | h0
    · have : l = [] := List.eq_nil_of_length_eq_zero (by omega)
      subst this
      rw [plans_nil]; simp only; omega
    · obtain ⟨s1, _⟩ := head_spec hc.1 (l := l) (by omega) fun f hf => (hl f hf).1.1
      rcases s1 with ⟨_, e⟩ | ⟨j, hj, h3, h4, e⟩
      · rw [e]; simp only; omega
      · have hd := deepG_rng (l.take (j + 1)) 0 (fun f hf => hl f (List.mem_of_mem_take hf)) (by omega) (by omega)
        have i1 := ih (n - (j + 1)) (by omega) (l.drop (j + 1)) (by rw [List.length_drop]; omega) (by omega) fun f hf => hl f (List.mem_of_mem_drop hf)
        rw [e]
        unfold candF
        generalize headP b (l.drop (j + 1)) = R at *
        generalize deepG 0 (l.take (j + 1)) = D at *
        simp only
        split <;> omega
theorem plans_ok {b : Brd} (hc : 0 ≤ b.c ∧ b.c ≤ 1000000) {l : List Ft} (hn : l.length ≤ 200) (hl : ∀ f ∈ l, okF f) : ∀ p ∈ plansF b l, okPl p := by
  intro p hp
  obtain ⟨j, hj, rfl⟩ := mem_getD hp
  rw [plans_len] at hj
  rw [plans_get b (by omega)]
  have := head_ok hc (l.length - j) (l.drop j) (by rw [List.length_drop]) (by omega) fun f hf => hl f (List.mem_of_mem_drop hf)
  unfold okPl
  generalize headP b (l.drop j) = R at *
  omega
/-- A division's first row. -/
theorem head_first {b : Brd} (hc : 0 ≤ b.c) {l : List Ft} (h0 : 0 < l.length) (hl : ∀ f ∈ l, 1 ≤ f.1) (hi : (headP b l).is = true) :
    ∃ j, j < l.length ∧ (headP b l).first = (j : Int) + 1 ∧ wideG b (-b.c) (l.take (j + 1)) ≤ b.w ∧ (headP b (l.drop (j + 1))).is = true ∧ headP b l = candF b (deepG 0 (l.take (j + 1))) (headP b (l.drop (j + 1))) j := by
  obtain ⟨s1, _⟩ := head_spec hc h0 hl
  rcases s1 with ⟨e, _⟩ | ⟨j, hj, h1, h2, e⟩
  · rw [e] at hi; cases hi
  · exact ⟨j, hj, by rw [e]; rfl, h1, h2, e⟩
theorem maxG_most {l : List Ft} (h : ∀ f ∈ l, 1 ≤ f.1) (h0 : 0 < l.length) : (l.foldl (fun m f => if m.1 < f.1 then f else m) (l.headD default)).1 = mostF l := by
  have key : ∀ (l : List Ft) (m : Ft), (l.foldl (fun m f => if m.1 < f.1 then f else m) m).1 = l.foldl (fun m f => max m f.1) m.1 := by
    intro l
    induction l with
    | nil => intro m; rfl
    | cons f l ih =>
      intro m
      rw [List.foldl_cons, List.foldl_cons, ih]
      congr 1
      split <;> omega
  cases l with
  | nil => simp at h0
  | cons f l =>
    have hf := h f List.mem_cons_self
    rw [key]
    show (f :: l).foldl (fun m f => max m f.1) f.1 = (f :: l).foldl (fun m f => max m f.1) 0
    rw [List.foldl_cons, List.foldl_cons, Int.max_self, Int.max_eq_right (by omega)]
theorem mostF_rng : ∀ (l : List Ft) (m : Int), (∀ f ∈ l, okF f) → 0 ≤ m → m ≤ 1000000 → 0 ≤ l.foldl (fun m f => max m f.1) m ∧ l.foldl (fun m f => max m f.1) m ≤ 1000000
  | [], m, _, h0, h1 => ⟨h0, h1⟩
  | f :: l, m, h, h0, h1 => by
    obtain ⟨⟨f1, f2⟩, _⟩ := h f List.mem_cons_self
    rw [List.foldl_cons]
    exact mostF_rng l _ (fun g hg => h g (List.mem_cons_of_mem _ hg)) (by omega) (by omega)
theorem rowF_len (b : Brd) (y : Int) : ∀ (l : List Ft) (x : Int), (rowF b y l x).length = l.length
  | [], _ => rfl
  | f :: l, x => by rw [rowF, List.length_cons, rowF_len b y l, List.length_cons]
end Go.Proofs.Ytojaibhjfeojjaa

