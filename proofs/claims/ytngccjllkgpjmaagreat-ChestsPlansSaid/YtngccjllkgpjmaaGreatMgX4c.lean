/- Regions that draw their order: the start, where the allocs are told. -/
import Derived.Test.YtngccjllkgpjmaaGreatMgX4b
import Derived.ProofKit
import Derived.Deep.Slices
import Derived.IntWalk
import Derived.Lib.BitFns
import Derived.Test.YtngccjllkgpjmaaGreatProg
/- Regions that draw their order: the start, where the allocs are told. -/
set_option linter.all false
namespace Go.Vx
open Go.RowKit
section
variable {P : Program} {E : Env} {w : World} {w0 : Cx} {rd : Option Nat} {Pd Pd' : List Pend} {A : S → Prop} {s : S} {bs : List BK} {B : Bd} {hp hp' : List HO}

theorem keeps_gone : Keeps w bs w (bs ++ [.gone]) := by
  intro b hf o ho
  refine ⟨ho, fun i b' c m h => ?_⟩
  rw [List.getElem?_append] at h
  split at h
  · exact hf i b' c m h
  · rw [List.getElem?_singleton] at h; split at h <;> cases h

theorem gone_hp (hH : Hp w bs B hp) : Hp w (bs ++ [.gone]) B (snocH hp .gone) := by
  have hst : ∀ e, Stays e bs (bs ++ [.gone]) := fun e => push_stays _ _
  have hget : ∀ (i b c m : Nat), (bs ++ [BK.gone])[i]? = some (.blk b c m) → bs[i]? = some (.blk b c m) := by
    intro i b c m h
    rw [List.getElem?_append] at h
    split at h
    · exact h
    · rw [List.getElem?_singleton] at h; split at h <;> cases h
  refine ⟨by simp [hH.len, lenH_snoc], fun i => ?_, fun i j b c m c' m' h1 h2 => hH.inj i j b c m c' m' (hget _ _ _ _ h1) (hget _ _ _ _ h2), fun i b c m h1 => hH.lo i b c m (hget _ _ _ _ h1)⟩
  rcases Nat.lt_trichotomy i (lenH hp) with hi | hi | hi
  · rw [getH_snoc_lt _ _ _ hi]
    exact (hH.ent i).keep keeps_gone (hst _) (by rw [List.getElem?_append_left (by rw [hH.len]; exact hi)]) (fun _ _ _ _ => rfl)
  · subst hi; rw [getH_snoc_eq]; exact .inl (last_get hH)
  · rw [getH_ge _ _ (by rw [lenH_snoc]; omega)]
    right
    rw [List.getElem?_eq_none]; simp [hH.len]; omega

theorem RepL.junkAt : ∀ {l : List SV} {vs : List Value} (_ : RepL w bs B l vs) (n : Nat), RepL w bs B (setL l n .junk) vs
  | _, _, .nil, n => by cases n <;> exact .nil
  | _, _, .cons _ _ _ _ _ h', 0 => .cons _ _ _ _ (.x _ _ (.junk _)) h'
  | _, _, .cons _ _ _ _ h h', n + 1 => .cons _ _ _ _ h (RepL.junkAt h' n)

theorem setH_snoc_eq : ∀ (l : List HO) (x y : HO), setH (snocH l x) (lenH l) y = snocH l y
  | [], _, _ => rfl
  | a :: l, x, y => congrArg (a :: ·) (setH_snoc_eq l x y)

/-- One more alloc is told ahead. -/
theorem pend_new {a : Act} {sv : List Act} (hR : PR w0 Pd s a sv w) {d : Nat} {z : AL} (hd : ∀ q ∈ Pd, q.slot ≠ d) :
    PR w0 (⟨lenH s.hp, d, z⟩ :: Pd) ((s.upd (.new z.ho)).put (some d) (.ptr (lenH s.hp) 0)) a sv w := by
  obtain ⟨⟨bs, hf, hsv, hH, hb, hoth⟩, hPd⟩ := hR
  have hlt := pend_lt hPd
  refine ⟨⟨bs ++ [.gone], ?_, ?_, ?_, hb, hoth.keep keeps_gone⟩, fun p hp => ?_⟩
  · have e : (er (⟨lenH s.hp, d, z⟩ :: Pd) ((s.upd (.new z.ho)).put (some d) (.ptr (lenH s.hp) 0))).fr = setL (er Pd s).fr d .junk := by
      show setL (junkSlots (setL s.fr d (.ptr (lenH s.hp) 0)) Pd) d .junk = setL (junkSlots s.fr Pd) d .junk
      rw [junkSlots_set hd, setL_setL]
    rw [e]
    exact (hf.junkAt d).keep keeps_gone (push_stays _ none) noRefL_none
  · exact RepLL.keep keeps_gone (push_stays _ none) hsv
  · have e : (er (⟨lenH s.hp, d, z⟩ :: Pd) ((s.upd (.new z.ho)).put (some d) (.ptr (lenH s.hp) 0))).hp = snocH (er Pd s).hp .gone := by
      show setH (goneIdx (snocH s.hp z.ho) Pd) (lenH s.hp) .gone = snocH (goneIdx s.hp Pd) .gone
      rw [goneIdx_snoc hlt]
      have := setH_snoc_eq (goneIdx s.hp Pd) z.ho .gone
      rw [lenH_gone] at this
      exact this
    rw [e]
    exact gone_hp hH
  · rcases List.mem_cons.1 hp with rfl | hp
    · exact ⟨getH_snoc_eq _ _, setL_setL _ _ _ _⟩
    · refine ⟨?_, ?_⟩
      · show getH (snocH s.hp z.ho) p.idx = _
        rw [getH_snoc_lt _ _ _ (hlt p hp)]; exact (hPd p hp).1
      · show setL (setL s.fr d _) p.slot _ = setL s.fr d _
        rw [setL_comm _ _ _ _ _ (fun e => hd p hp e.symm), (hPd p hp).2]

def pends : Nat → List (Nat × AL) → List Pend → List Pend
  | _, [], Pd => Pd
  | n, (d, z) :: l, Pd => pends (n + 1) l (⟨n, d, z⟩ :: Pd)

def distinct : List (Nat × AL) → List Nat → Bool
  | [], _ => true
  | (d, _) :: l, ds => !ds.contains d && distinct l (d :: ds)

theorem pend_all {a : Act} {sv : List Act} : ∀ (al : List (Nat × AL)) (Pd : List Pend) (s : S), distinct al (Pd.map (·.slot)) = true → PR w0 Pd s a sv w → PR w0 (pends (lenH s.hp) al Pd) (runAl s al) a sv w
  | [], _, _, _, h => h
  | (d, z) :: l, Pd, s, hdis, h => by
    simp only [distinct, Bool.and_eq_true, Bool.not_eq_true'] at hdis
    have hd : ∀ q ∈ Pd, q.slot ≠ d := by
      intro q hq he
      have : (Pd.map (·.slot)).contains d = true := by
        rw [List.contains_iff_mem, List.mem_map]; exact ⟨q, hq, he⟩
      rw [hdis.1] at this; cases this
    have := pend_all l (⟨lenH s.hp, d, z⟩ :: Pd) _ (by simpa using hdis.2) (pend_new h (z := z) hd)
    have hl : lenH ((s.upd (.new z.ho)).put (some d) (.ptr (lenH s.hp) 0)).hp = lenH s.hp + 1 := lenH_snoc _ _
    rw [hl] at this
    exact this

theorem pr_nil {a : Act} {sv : List Act} (h : Rl w0 s a sv w) : PR w0 [] s a sv w := ⟨h, fun _ hp => by cases hp⟩

theorem er_swap (p q : Pend) (l : List Pend) : er (p :: q :: l) s = er (q :: p :: l) s := by
  have h1 : ∀ (fr : List SV), setL (setL fr q.slot .junk) p.slot .junk = setL (setL fr p.slot .junk) q.slot .junk := fun fr => by
    by_cases h : q.slot = p.slot
    · rw [h]
    · exact setL_comm _ _ _ _ _ h
  have h2 : ∀ (hp : List HO), setH (setH hp q.idx .gone) p.idx .gone = setH (setH hp p.idx .gone) q.idx .gone := fun hp => by
    by_cases h : q.idx = p.idx
    · rw [h]
    · exact setH_comm _ _ _ _ _ h
  simp only [er, junkSlots, goneIdx, h1, h2]

theorem er_cons (p : Pend) {l l' : List Pend} (h : er l s = er l' s) : er (p :: l) s = er (p :: l') s := by
  simp only [er, S.mk.injEq, true_and] at h
  simp only [er, junkSlots, goneIdx, h.1, h.2]

theorem er_perm (h : Pd.Perm Pd') : er Pd s = er Pd' s := by
  induction h with
  | nil => rfl
  | cons p _ ih => exact er_cons p ih
  | swap p q l => exact er_swap q p l
  | trans _ _ ih1 ih2 => exact ih1.trans ih2

theorem pr_perm {a : Act} {sv : List Act} (h : Pd.Perm Pd') (hR : PR w0 Pd s a sv w) : PR w0 Pd' s a sv w :=
  ⟨by rw [← er_perm h]; exact hR.1, fun p hp => hR.2 p (h.mem_iff.2 hp)⟩

end
end Go.Vx

/- Regions that draw their order: every step of a region is sound. -/
/- Regions that draw their order: every step of a region is sound. -/
set_option linter.all false
namespace Go.Vx
open Go.RowKit

/-- The allocs that the program has yet to run. -/
def pendOf (sil : List (Nat × Pend)) (L : Array Bool) : List Pend :=
  match sil with
  | [] => []
  | x :: r => bif L.getD x.1 false then pendOf r L else x.2 :: pendOf r L

theorem mem_pendOf {p : Pend} {L : Array Bool} : ∀ {sil : List (Nat × Pend)}, p ∈ pendOf sil L ↔ ∃ k, (k, p) ∈ sil ∧ L.getD k false = false
  | [] => by simp [pendOf]
  | x :: r => by
    unfold pendOf
    cases hl : L.getD x.1 false with
    | true =>
      simp only [cond_true]
      rw [mem_pendOf (sil := r)]
      constructor
      · rintro ⟨k, h1, h2⟩; exact ⟨k, List.mem_cons_of_mem _ h1, h2⟩
      · rintro ⟨k, h1, h2⟩
        rcases List.mem_cons.1 h1 with rfl | h1
        · rw [hl] at h2; cases h2
        · exact ⟨k, h1, h2⟩
    | false =>
      simp only [cond_false, List.mem_cons]
      rw [mem_pendOf (sil := r)]
      constructor
      · rintro (rfl | ⟨k, h1, h2⟩)
        · exact ⟨x.1, .inl rfl, hl⟩
        · exact ⟨k, .inr h1, h2⟩
      · rintro ⟨k, rfl | h1, h2⟩
        · exact .inl rfl
        · exact .inr ⟨k, h1, h2⟩

theorem pendOf_same {L : Array Bool} {i : Nat} : ∀ {sil : List (Nat × Pend)}, (∀ p, (i, p) ∉ sil) → pendOf sil (L.setIfInBounds i true) = pendOf sil L
  | [], _ => rfl
  | x :: r, h => by
    unfold pendOf
    have hx : i ≠ x.1 := by
      intro e
      exact h x.2 (by rw [e]; exact List.mem_cons_self)
    rw [getD_set_ne false hx, pendOf_same (sil := r) fun p hp => h p (List.mem_cons_of_mem _ hp)]

theorem pendOf_perm {L : Array Bool} {i : Nat} {p : Pend} (hi : i < L.size) (hl : L.getD i false = false) : ∀ {sil : List (Nat × Pend)}, (sil.map (·.1)).Nodup → (i, p) ∈ sil → (pendOf sil L).Perm (p :: pendOf sil (L.setIfInBounds i true))
  | x :: r, hn, hm => by
    rw [List.map_cons, List.nodup_cons] at hn
    by_cases hx : x.1 = i
    · have hp : x = (i, p) := by
        rcases List.mem_cons.1 hm with rfl | hm
        · rfl
        · exact absurd (List.mem_map.2 ⟨_, hm, hx.symm⟩) hn.1
      subst hp
      have hr : ∀ q, (i, q) ∉ r := fun q hq => hn.1 (List.mem_map.2 ⟨_, hq, rfl⟩)
      unfold pendOf
      simp only [hl, cond_false]
      have : (L.setIfInBounds i true).getD i false = true := by simp [hi]
      rw [this, pendOf_same hr]
      exact List.Perm.refl _
    · have hm' : (i, p) ∈ r := by
        rcases List.mem_cons.1 hm with rfl | hm
        · exact absurd rfl hx
        · exact hm
      have ih := pendOf_perm hi hl hn.2 hm'
      unfold pendOf
      rw [getD_set_ne false (Ne.symm hx)]
      cases L.getD x.1 false with
      | true => exact ih
      | false => exact (List.Perm.cons _ ih).trans (List.Perm.swap _ _ _)

theorem pendOf_none {n : Nat} : ∀ {sil : List (Nat × Pend)}, pendOf sil (Array.replicate n false) = sil.map (·.2)
  | [] => rfl
  | x :: r => by
    unfold pendOf
    have : (Array.replicate n false).getD x.1 false = false := by
      rcases Nat.lt_or_ge x.1 n with h' | h'
      · simp [h']
      · simp [Array.getElem?_eq_none, h']
    rw [this, pendOf_none (sil := r)]
    rfl

/-- Where nothing is ready all is listed. -/
theorem all_listed {md : Region.Mode} {ops : Array Oper} (hb : ∀ (i : Nat) (o : Oper), ops[i]? = some o → ∀ e ∈ o.after, Region.binds md e = true → e.on < i) {L : Array Bool} (hd : Down md ops L) (hr : Region.ready md ops L = []) :
    ∀ (N i : Nat), i < N → i < ops.size → L.getD i false = true
  | N + 1, i, hi, hn => by
    cases hl : L.getD i false with
    | true => rfl
    | false =>
      have ho : ops[i]? = some ops[i] := Array.getElem?_eq_getElem hn
      have hL : i < L.size := by rw [hd.1]; exact hn
      have : i ∈ Region.ready md ops L := mem_ready.2 ⟨by simp [hL] at hl ⊢; exact hl, _, ho, fun e he hbi => by
        have := hb i _ ho e he hbi
        exact all_listed hb hd hr N e.on (by omega) (by omega)⟩
      rw [hr] at this; cases this

section
variable {P : Program} {E : Env} {w0 : Cx} {rd : Option Nat} {all : Array Oper} {tab : List DT} {sil : List (Nat × Pend)} {clo : Nat → Nat → Bool} {md : Region.Mode}

/-- What the table of a region has to be. -/
structure RegOk (P : Program) (all : Array Oper) (tab : List DT) (sil : List (Nat × Pend)) (clo : Nat → Nat → Bool) : Prop where
  nodup : (sil.map (·.1)).Nodup
  apart : ∀ x ∈ sil, ∀ y ∈ sil, x.1 ≠ y.1 → x.2.slot ≠ y.2.slot ∧ x.2.idx ≠ y.2.idx
  silent : ∀ (i d : Nat), tab[i]? = some (.silent d) → ∃ p o elem, (i, p) ∈ sil ∧ all[i]? = some o ∧ o.op = .alloc elem ∧ o.guard = none ∧ p.cells.is P elem ∧ o.dst = some p.slot
  op : ∀ (i : Nat) (v : VOp) (chk : List (Nat × X)), tab[i]? = some (.op v chk) → (∀ p, (i, p) ∉ sil) ∧ (∃ o, all[i]? = some o ∧ vopOf P all o = some v) ∧
    ∀ x ∈ sil, (clo i x.1 = true ∨ (x.2.slot ∉ v.reads ∧ (v.op.isAppend = true → x.2.cells.clean = true))) ∧ v.dst ≠ some x.2.slot

theorem hop (hE : EnvOk P E) (hc : CloOk md all clo) (hr : RegOk P all tab sil clo) {κ : Kont} {sv : List Act} (i : Nat) (L : Array Bool) (s : S) (A : S → Prop) (a : Act) (w : World)
    (hi : i ∈ Region.ready md all L) (h : stepD E tab i L A s) (hR : Down md all L ∧ PR w0 (pendOf sil L) s a sv w) :
    wpOpIn (Wd rd) 0 P all κ i (fun a' w' => ∃ s', A s' ∧ (Down md all (L.setIfInBounds i true) ∧ PR w0 (pendOf sil (L.setIfInBounds i true)) s' a' sv w')) a w := by
  obtain ⟨hd, hR⟩ := hR
  have hd' := hd.set hi
  unfold stepD at h
  cases ht : tab[i]? with
  | none => rw [ht] at h; exact h.elim
  | some t =>
    rw [ht] at h
    cases t with
    | silent d =>
      obtain ⟨p, o, elem, hm, ho, hop, hg, hz, hdst⟩ := hr.silent i d ht
      have hsz : i < L.size := by rw [hd.1]; exact (Array.getElem?_eq_some_iff.1 ho).1
      have hR' := pr_perm (pendOf_perm hsz (ready_not hi) hr.nodup hm) hR
      have hap : ∀ q ∈ pendOf sil (L.setIfInBounds i true), q.slot ≠ p.slot ∧ q.idx ≠ p.idx := by
        intro q hq
        obtain ⟨k, hk, hkl⟩ := mem_pendOf.1 hq
        refine hr.apart (k, q) hk (i, p) hm ?_
        rintro (rfl : k = i)
        simp [hsz] at hkl
      exact alloc_step ho hop hg hz hdst (fun q hq => (hap q hq).2) (fun q hq => (hap q hq).1) hR' fun a' w' h' => ⟨s, h, hd', h'⟩
    | op v chk =>
      obtain ⟨hns, ⟨o, ho, hv⟩, hst⟩ := hr.op i v chk ht
      have hpend : ∀ p ∈ pendOf sil L, (p.slot ∉ v.reads ∧ (v.op.isAppend = true → p.cells.clean = true)) ∧ v.dst ≠ some p.slot := by
        intro p hp
        obtain ⟨k, hk, hkl⟩ := mem_pendOf.1 hp
        obtain ⟨h1, h2⟩ := hst (k, p) hk
        refine ⟨h1.resolve_left fun hck => ?_, h2⟩
        have := hc.ready L i k hd hi hck
        rw [hkl] at this; cases this
      refine wpOpIn_mono (fun a' w' ⟨s', h1, h2⟩ => ⟨s', h1, hd', by rw [pendOf_same hns]; exact h2⟩) (dop_sound hE ho hv (fun p hp => (hpend p hp).1.1) (fun p hp => (hpend p hp).2) (fun ha p hp => (hpend p hp).1.2 ha) h.2 hR)

/-- A region that draws its order, from a run in one order. -/
theorem region_sound (hE : EnvOk P E) (hm : P.follows .mixedOrders = true) {cl : List Nat} (hl : cl.length = all.size) (hcl : closOk (directs .any all) cl all.size = true) (hr : RegOk P all tab sil (cloOf cl)) {free : Nat → Bool}
    (hfree : ∀ i, free i = true → (∃ d, tab[i]? = some (.silent d)) ∨ ∃ v, tab[i]? = some (.op v []) ∧ v.op.quiet = true ∧ ∀ (j : Nat) (t : DT), tab[j]? = some t → commB (cloOf cl) i v j t = true)
    {K : S → Prop} {κ : Kont} {s : S} {a : Act} {sv : List Act} {w : World} {id : Nat}
    (h : (∀ (j : Nat) (L : Array Bool) (s : S) (A B : S → Prop), (∀ s, A s → B s) → stepD E tab j L A s → stepD E tab j L B s) → (∀ i L s, free i = true → ¬ stepD E tab i L (fun _ => False) s) →
      (∀ (i : Nat), free i = true → ∀ (j : Nat) (L : Array Bool) (s : S) (A : S → Prop), Down .any all L → i ∈ Region.ready .any all L → j ∈ Region.ready .any all L → j ≠ i → stepD E tab i L (stepD E tab j (L.setIfInBounds i true) A) s → stepD E tab j L (stepD E tab i (L.setIfInBounds j true) A) s) →
      anyS (stepD E tab) K .any all all.size (Array.replicate all.size false) s) (hR : PR w0 (sil.map (·.2)) s a sv { w with drawn := w.drawn + 1 }) (hK : ∀ s a w, K s → Rl w0 s a sv w → κ .normal a w) (hall : ∀ x ∈ sil, x.1 < all.size) (hbel : ∀ (i : Nat) (o : Oper), all[i]? = some o → ∀ e ∈ o.after, Region.binds .any e = true → e.on < i) : (Code.region id all true).wpIn (Wd rd) 0 P κ a w := by
  have hc := clo_ok hl hcl
  refine wpIn_region_any hm ?_
  have hany := h stepD_mono ?_ ?_
  · refine anyS_sound (step := stepD E tab) (K := K) (P := P) (Q := κ) (fun L s a w => Down .any all L ∧ PR w0 (pendOf sil L) s a sv w) (fun i L s A a w hi hs hR => hop hE hc hr i L s A a w hi hs hR) ?_ _ _ s a _ hany ⟨down_none, ?_⟩
    · rintro L s a w hr0 hKs ⟨hd, hPR⟩
      have : pendOf sil L = [] := by
        cases hp : pendOf sil L with
        | nil => rfl
        | cons p r =>
          obtain ⟨k, hk, hkl⟩ := mem_pendOf.1 (show p ∈ pendOf sil L by rw [hp]; exact List.mem_cons_self)
          have := all_listed hbel hd hr0 (k + 1) k (by omega) (hall _ hk)
          rw [hkl] at this; cases this
      rw [this] at hPR
      exact hK s a w hKs hPR.1
    · rw [pendOf_none]; exact hR
  · intro i L s hf hstep
    rcases hfree i hf with ⟨d, ht⟩ | ⟨v, ht, hq, _⟩
    · unfold stepD at hstep; rw [ht] at hstep; exact hstep
    · unfold stepD at hstep; rw [ht] at hstep; exact dopW_strict hq hstep.2
  · intro i hf j L s A hd hri hrj hji hs
    rcases hfree i hf with ⟨d, ht⟩ | ⟨v, ht, hq, hcm⟩
    · have hsi : ∀ (L : Array Bool) (A : S → Prop) (s : S), stepD E tab i L A s = A s := by
        intro L A s; unfold stepD; rw [ht]
      rw [hsi] at hs
      refine stepD_mono j L s _ _ (fun s' hs' => by rw [hsi]; exact hs') ?_
      unfold stepD at hs ⊢
      cases htj : tab[j]? with
      | none => rw [htj] at hs; exact hs
      | some t =>
        rw [htj] at hs
        cases t with
        | silent d => exact hs
        | op u chk => exact ⟨fun c hcm hcl => hs.1 c hcm (getD_set_true hcl), hs.2⟩
    · exact stepD_exch hc ht hq hcm j L s A hd hri hrj hji hs


/-- The count of draws is no part of what is told of a world. -/
theorem rl_drawn {s : S} {a : Act} {sv : List Act} {w : World} (h : Rl w0 s a sv w) (n : Nat) : Rl w0 s a sv { w with drawn := n } := by
  obtain ⟨bs, hf, hsv, hH, hb, hoth⟩ := h
  have hk : Keeps w bs { w with drawn := n } bs := fun b hf o ho => ⟨ho, hf⟩
  have hst : Stays none bs bs := fun _ _ _ h _ => h
  exact ⟨bs, hf.keep hk hst noRefL_none, hsv.keep hk hst, ⟨hH.len, fun i => (hH.ent i).keep hk hst rfl (fun _ _ _ _ => rfl), hH.inj, hH.lo⟩, ⟨hb.os, hb.tape, hb.output, hb.size, hb.block⟩, hoth.keep hk⟩

end
end Go.Vx

/- Regions that draw their order: what 'drawOf' has checked. -/
/- Regions that draw their order: what 'drawOf' has checked. -/
set_option linter.all false
namespace Go.Vx
open Go.RowKit

def entryOf (clo : Nat → Nat → Bool) (all : List VOp) (v : VOp) (j : Nat) : DT :=
  match silentOf v with
  | some (d, _) => .silent d
  | none => .op v (bif v.op.isStore then chkOf clo j all 0 else bif v.op.isAppend then apkOf clo j all 0 else [])

theorem tabOf_get {clo : Nat → Nat → Bool} {all : List VOp} : ∀ (l : List VOp) (j i : Nat), (tabOf clo all l j)[i]? = (l[i]?).map fun v => entryOf clo all v (j + i)
  | [], _, _ => by simp [tabOf]
  | v :: l, j, 0 => by
    simp only [tabOf, List.getElem?_cons_zero, Option.map_some, Nat.add_zero, entryOf]
    cases silentOf v <;> rfl
  | v :: l, j, i + 1 => by
    simp only [tabOf, List.getElem?_cons_succ]
    rw [tabOf_get l (j + 1) i]
    congr 1
    funext v
    rw [show j + 1 + i = j + (i + 1) by omega]

theorem mem_silOf {k d : Nat} {z : AL} : ∀ {l : List VOp} {j : Nat}, (k, d, z) ∈ silOf l j ↔ ∃ i v, l[i]? = some v ∧ k = j + i ∧ silentOf v = some (d, z)
  | [], j => by simp [silOf]
  | v :: l, j => by
    have ih := mem_silOf (k := k) (d := d) (z := z) (l := l) (j := j + 1)
    unfold silOf
    cases hs : silentOf v with
    | none =>
      simp only
      rw [ih]
      constructor
      · rintro ⟨i, u, h1, h2, h3⟩; exact ⟨i + 1, u, by simpa using h1, by omega, h3⟩
      · rintro ⟨i, u, h1, h2, h3⟩
        cases i with
        | zero => simp only [List.getElem?_cons_zero, Option.some.injEq] at h1; subst h1; rw [hs] at h3; cases h3
        | succ i => exact ⟨i, u, by simpa using h1, by omega, h3⟩
    | some r =>
      obtain ⟨d', z'⟩ := r
      simp only [List.mem_cons]
      rw [ih]
      constructor
      · rintro (h | ⟨i, u, h1, h2, h3⟩)
        · cases h; exact ⟨0, v, rfl, rfl, hs⟩
        · exact ⟨i + 1, u, by simpa using h1, by omega, h3⟩
      · rintro ⟨i, u, h1, h2, h3⟩
        cases i with
        | zero => simp only [List.getElem?_cons_zero, Option.some.injEq] at h1; subst h1; rw [hs] at h3; cases h3; left; rw [h2]; rfl
        | succ i => exact .inr ⟨i, u, by simpa using h1, by omega, h3⟩

theorem vopsOf_get {P : Program} {all : Array Oper} : ∀ {rest : List Oper} {vs : List VOp}, vopsOf P all rest = some vs → ∀ (i : Nat) (v : VOp), vs[i]? = some v → ∃ o, rest[i]? = some o ∧ vopOf P all o = some v
  | [], vs, h, i, v, hv => by simp only [vopsOf, Option.some.injEq] at h; subst h; simp at hv
  | o :: l, vs, h, i, v, hv => by
    simp only [vopsOf] at h
    obtain ⟨x, hx, h⟩ := Option.bind_eq_some_iff.1 h
    obtain ⟨y, hy, rfl⟩ := Option.map_eq_some_iff.1 h
    cases i with
    | zero => simp only [List.getElem?_cons_zero, Option.some.injEq] at hv; subst hv; exact ⟨o, rfl, hx⟩
    | succ i => exact vopsOf_get hy i v (by simpa using hv)

theorem commAll_at {clo : Nat → Nat → Bool} {i : Nat} {v : VOp} : ∀ {l : List DT} {j : Nat}, commAll clo i v l j = true → ∀ (k : Nat) (t : DT), l[k]? = some t → commB clo i v (j + k) t = true
  | t :: l, j, h, 0, u, hu => by
    simp only [commAll, Bool.and_eq_true] at h
    simp only [List.getElem?_cons_zero, Option.some.injEq] at hu; subst hu; exact h.1
  | t :: l, j, h, k + 1, u, hu => by
    simp only [commAll, Bool.and_eq_true] at h
    have := commAll_at h.2 k u (by simpa using hu)
    rw [show j + 1 + k = j + (k + 1) by omega] at this
    exact this

end Go.Vx

/- Regions that draw their order: what 'drawOf' gives. -/
/- Regions that draw their order: what 'drawOf' gives. -/
set_option linter.all false
namespace Go.Vx
open Go.RowKit

theorem lenE_eq : ∀ l : List SV, lenE l = lenL l
  | [] => rfl
  | _ :: l => congrArg (· + 1) (lenE_eq l)

/-- What a silent alloc is as an operation. -/
def AL.op : AL → VO
  | .box z => .alloc z
  | .arr n size z => .allocArr n size z
def AL.ok : AL → Prop
  | .box _ => True
  | .arr n size z => lenL z = n * size

theorem silentOf_inv {v : VOp} {d : Nat} {z : AL} (h : silentOf v = some (d, z)) : v.dst = some d ∧ v.g = none ∧ v.op = z.op ∧ z.ok := by
  unfold silentOf at h
  split at h
  · cases h; exact ⟨rfl, rfl, rfl, trivial⟩
  · rename_i n size z' _
    cases hb : Nat.beq (lenE z') (n * size) with
    | true => rw [hb] at h; cases h; exact ⟨rfl, rfl, rfl, (lenE_eq z').symm.trans (Nat.eq_of_beq_eq_true hb)⟩
    | false => rw [hb] at h; cases h
  · cases h

theorem vop_alloc' {P : Program} {o : Oper} {z : AL} {ops : List Operand} {elem : TypeId} (ho : o.op = .alloc elem) (h : vop P o = some (AL.op z, ops)) (hk : AL.ok z) : z.is P elem := by
  obtain ⟨dst, op, type, pos, after, guard⟩ := o
  simp only at ho
  subst ho
  unfold vop at h
  simp only at h
  split at h
  · obtain ⟨_, hz, h⟩ := Option.bind_eq_some_iff.1 h
    obtain ⟨_, _, h⟩ := Option.map_eq_some_iff.1 h
    cases z <;> cases h
    exact ⟨hz, hk⟩
  · obtain ⟨_, hz, h⟩ := Option.map_eq_some_iff.1 h
    cases z <;> cases h
    exact hz

theorem allocOk_at : ∀ {os : List Oper} {vs : List VOp}, allocOk os vs = true → ∀ (i : Nat) (o : Oper) (v : VOp), os[i]? = some o → vs[i]? = some v → (silentOf v).isSome = true → ∃ e, o.op = .alloc e
  | [], _, _, i, o, v, h, _, _ => by simp at h
  | _ :: _, [], _, i, o, v, _, h, _ => by simp at h
  | o' :: os, v' :: vs, h, 0, o, v, h1, h2, h3 => by
    simp only [List.getElem?_cons_zero, Option.some.injEq] at h1 h2
    subst h1; subst h2
    simp only [allocOk, Bool.and_eq_true] at h
    have h := h.1
    cases hs : silentOf v' with
    | none => rw [hs] at h3; cases h3
    | some x =>
      rw [hs] at h
      simp only at h
      split at h
      · exact ⟨_, ‹_›⟩
      · cases h
  | o' :: os, v' :: vs, h, i + 1, o, v, h1, h2, h3 => by
    simp only [allocOk, Bool.and_eq_true] at h
    exact allocOk_at h.2 i o v (by simpa using h1) (by simpa using h2) h3

/-- The pending allocs, numbered from n on. -/
def silP : Nat → List (Nat × Nat × AL) → List (Nat × Pend)
  | _, [] => []
  | n, (j, d, z) :: l => (j, ⟨n, d, z⟩) :: silP (n + 1) l

theorem mem_silP {j : Nat} {p : Pend} : ∀ {l : List (Nat × Nat × AL)} {n : Nat}, (j, p) ∈ silP n l → n ≤ p.idx ∧ (j, p.slot, p.cells) ∈ l
  | [], _, h => by cases h
  | (j', d, z) :: l, n, h => by
    rcases List.mem_cons.1 h with h | h
    · cases h; exact ⟨Nat.le_refl _, List.mem_cons_self⟩
    · have := mem_silP h; exact ⟨by omega, List.mem_cons_of_mem _ this.2⟩

theorem silP_mem {j d : Nat} {z : AL} : ∀ {l : List (Nat × Nat × AL)} {n : Nat}, (j, d, z) ∈ l → ∃ p, (j, p) ∈ silP n l ∧ p.slot = d ∧ p.cells = z
  | [], _, h => by cases h
  | (j', d', z') :: l, n, h => by
    rcases List.mem_cons.1 h with h | h
    · cases h; exact ⟨_, List.mem_cons_self, rfl, rfl⟩
    · obtain ⟨p, h1, h2⟩ := silP_mem (n := n + 1) h
      exact ⟨p, List.mem_cons_of_mem _ h1, h2⟩

theorem silP_fst : ∀ {l : List (Nat × Nat × AL)} {n : Nat}, (silP n l).map (·.1) = l.map (·.1)
  | [], _ => rfl
  | (j, d, z) :: l, n => by simp only [silP, List.map_cons, silP_fst]

theorem silOf_ge {x : Nat × Nat × AL} {l : List VOp} {j : Nat} (h : x ∈ silOf l j) : j ≤ x.1 := by
  obtain ⟨k, d, z⟩ := x
  obtain ⟨i, v, _, h2, _⟩ := mem_silOf.1 h
  simp only; omega

theorem silOf_nodup : ∀ {l : List VOp} {j : Nat}, ((silOf l j).map (·.1)).Nodup
  | [], _ => .nil
  | v :: l, j => by
    unfold silOf
    cases silentOf v with
    | none => exact silOf_nodup
    | some r =>
      obtain ⟨d, z⟩ := r
      simp only [List.map_cons, List.nodup_cons]
      refine ⟨fun h => ?_, silOf_nodup⟩
      obtain ⟨x, hx, h⟩ := List.mem_map.1 h
      have := silOf_ge hx; omega

theorem distinctB_nodup : ∀ {l : List Nat}, distinctB l = true → l.Nodup
  | [], _ => .nil
  | d :: l, h => by
    simp only [distinctB, Bool.and_eq_true, Bool.not_eq_true'] at h
    rw [List.nodup_cons]
    refine ⟨fun hm => ?_, distinctB_nodup h.2⟩
    have : l.contains d = true := by rw [List.contains_iff_mem]; exact hm
    rw [h.1] at this; cases this

theorem silP_apart : ∀ {l : List (Nat × Nat × AL)} {n : Nat}, (l.map (·.2.1)).Nodup → ∀ x ∈ silP n l, ∀ y ∈ silP n l, x.1 ≠ y.1 → x.2.slot ≠ y.2.slot ∧ x.2.idx ≠ y.2.idx
  | [], _, _, x, hx, _, _, _ => by cases hx
  | (j, d, z) :: l, n, hn, x, hx, y, hy, hxy => by
    simp only [List.map_cons, List.nodup_cons] at hn
    have key : ∀ u ∈ silP (n + 1) l, u.2.slot ≠ d ∧ u.2.idx ≠ n := by
      rintro ⟨k, p⟩ hu
      obtain ⟨h1, h2⟩ := mem_silP hu
      refine ⟨fun e => hn.1 (List.mem_map.2 ⟨_, h2, e⟩), ?_⟩
      simp only; omega
    rcases List.mem_cons.1 hx with rfl | hx <;> rcases List.mem_cons.1 hy with rfl | hy
    · exact absurd rfl hxy
    · exact ⟨fun e => (key y hy).1 e.symm, fun e => (key y hy).2 e.symm⟩
    · exact key x hx
    · exact silP_apart hn.2 x hx y hy hxy

theorem pends_perm : ∀ {l : List (Nat × Nat × AL)} {n : Nat} {Pd : List Pend}, (pends n (l.map (·.2)) Pd).Perm ((silP n l).map (·.2) ++ Pd)
  | [], _, _ => List.Perm.refl _
  | (j, d, z) :: l, n, Pd => by
    simp only [List.map_cons, pends, silP, List.cons_append]
    exact pends_perm.trans List.perm_middle

theorem distinct_of {al : List (Nat × AL)} : ∀ {ds : List Nat}, (al.map (·.1)).Nodup → (∀ d ∈ al.map (·.1), d ∉ ds) → distinct al ds = true := by
  induction al with
  | nil => intros; rfl
  | cons x al ih =>
    obtain ⟨d, z⟩ := x
    intro ds hn hd
    simp only [List.map_cons, List.nodup_cons] at hn
    simp only [distinct, Bool.and_eq_true, Bool.not_eq_true']
    refine ⟨?_, ih hn.2 fun e he hm => ?_⟩
    · cases hc : ds.contains d with
      | false => rfl
      | true => rw [List.contains_iff_mem] at hc; exact absurd hc (hd d (by simp))
    · rcases List.mem_cons.1 hm with rfl | hm
      · exact hn.1 he
      · exact hd e (by simp only [List.map_cons, List.mem_cons]; exact .inr he) hm

theorem silOk_at {clo : Nat → Nat → Bool} {sil : List (Nat × Nat × AL)} : ∀ {l : List DT} {j : Nat}, silOk clo sil l j = true → ∀ (k : Nat) (v : VOp) (chk : List (Nat × X)), l[k]? = some (.op v chk) →
    ∀ x ∈ sil, (clo (j + k) x.1 = true ∨ (x.2.1 ∉ v.reads ∧ (v.op.isAppend = true → x.2.2.clean = true))) ∧ v.dst ≠ some x.2.1
  | [], _, _, k, v, chk, h, _, _ => by simp at h
  | .silent _ :: l, j, h, 0, v, chk, hk, _, _ => by simp at hk
  | .silent _ :: l, j, h, k + 1, v, chk, hk, x, hx => by
    have := silOk_at (l := l) (j := j + 1) h k v chk (by simpa using hk) x hx
    rwa [show j + 1 + k = j + (k + 1) by omega] at this
  | .op u c :: l, j, h, 0, v, chk, hk, x, hx => by
    simp only [List.getElem?_cons_zero, Option.some.injEq, DT.op.injEq] at hk
    obtain ⟨rfl, rfl⟩ := hk
    simp only [silOk, Bool.and_eq_true, List.all_eq_true] at h
    have := h.1 x hx
    simp only [Bool.or_eq_true, Bool.and_eq_true, Bool.not_eq_true'] at this
    refine ⟨?_, ?_⟩
    · rcases this.1 with h1 | ⟨h1, h2⟩
      · exact .inl h1
      · exact .inr ⟨fun hm => absurd ((List.contains_iff_mem (a := x.2.1)).2 hm) (by rw [h1]; simp), fun ha => by rcases h2 with h2 | h2; (rw [ha] at h2; cases h2); exact h2⟩
    · intro e
      have := this.2
      rw [e] at this
      simp at this
  | .op u c :: l, j, h, k + 1, v, chk, hk, x, hx => by
    simp only [silOk, Bool.and_eq_true] at h
    have := silOk_at (l := l) (j := j + 1) h.2 k v chk (by simpa using hk) x hx
    rwa [show j + 1 + k = j + (k + 1) by omega] at this

theorem belowOk_at : ∀ {l : List Nat} {j : Nat}, belowOk l j = true → ∀ k, l.getD k 0 < 2 ^ (j + k)
  | [], j, _, k => by simp; exact Nat.two_pow_pos _
  | m :: l, j, h, 0 => by
    simp only [belowOk, Bool.and_eq_true] at h
    have := h.1
    simp only [Nat.blt_eq] at this
    simpa using this
  | m :: l, j, h, k + 1 => by
    simp only [belowOk, Bool.and_eq_true] at h
    have := belowOk_at h.2 k
    rw [show j + 1 + k = j + (k + 1) by omega] at this
    simpa using this

theorem frees_at {clo : Nat → Nat → Bool} {tab : List DT} : ∀ (n j i : Nat), (frees clo tab n j).getD i false = true → freeB clo tab (j + i) = true
  | 0, _, _, h => by simp [frees] at h
  | n + 1, j, 0, h => by simpa [frees] using h
  | n + 1, j, i + 1, h => by
    have := frees_at (clo := clo) (tab := tab) n (j + 1) i (by simpa [frees] using h)
    rwa [show j + 1 + i = j + (i + 1) by omega] at this

theorem vopsOf_length {P : Program} {all : Array Oper} : ∀ {rest : List Oper} {vs : List VOp}, vopsOf P all rest = some vs → vs.length = rest.length
  | [], vs, h => by simp only [vopsOf, Option.some.injEq] at h; subst h; rfl
  | o :: l, vs, h => by
    simp only [vopsOf] at h
    obtain ⟨x, hx, h⟩ := Option.bind_eq_some_iff.1 h
    obtain ⟨y, hy, rfl⟩ := Option.map_eq_some_iff.1 h
    simp [vopsOf_length hy]

def OT.all : OT → List Nat
  | .nil => []
  | .op i t => i :: t.all
  | .br a b => a.all ++ b.all

/-- The run of such a region's operations, one after the other. -/
def dopsP (E : Env) (A : S → Prop) : List DOp → S → Prop
  | [], s => A s
  | ⟨v, chk⟩ :: l, s => chkG v.op.isAppend s (s.x (headX v.xs)) chk ∧ dopW E v (dopsP E A l) s

def dtrP (E : Env) (A : S → Prop) : DTr → S → Prop
  | .leaf, s => A s
  | .ops l t, s => dopsP E (dtrP E A t) l s
  | .br a b, s => dtrP E A a s ∧ dtrP E A b s

theorem chkA_at {s : S} {y : SV} : ∀ {l : List X}, chkA s y l → ∀ x ∈ l, napP (s.x x) y
  | x :: l, h, z, hz => by
    rcases List.mem_cons.1 hz with rfl | hz
    · exact h.1
    · exact chkA_at h.2 z hz

theorem chkP_at {s : S} {y : SV} : ∀ {l : List X}, chkP s y l → ∀ x ∈ l, apartP (s.x x) y
  | x :: l, h, z, hz => by
    rcases List.mem_cons.1 hz with rfl | hz
    · exact h.1
    · exact chkP_at h.2 z hz

theorem chkG_at {ap : Bool} {s : S} {y : SV} {l : List X} (h : chkG ap s y l) (x : X) (hx : x ∈ l) : chk1 ap (s.x x) y := by
  cases ap with
  | false => exact chkP_at h x hx
  | true => exact chkA_at h x hx

theorem seqS_of {E : Env} {A : S → Prop} {tab : List DT} : ∀ {order : List Nat} {L : Array Bool} {s : S}, (∀ i ∈ order, i < tab.length) → dopsP E A (dopOf tab order) s → seqS (stepD E tab) A order L s
  | [], _, _, _, h => h
  | i :: order, L, s, hi, h => by
    have hlt := hi i List.mem_cons_self
    unfold dopOf at h
    unfold seqS stepD
    cases ht : tab[i]? with
    | none => rw [List.getElem?_eq_none_iff] at ht; omega
    | some t =>
      rw [ht] at h
      cases t with
      | silent d => exact seqS_of (fun j hj => hi j (List.mem_cons_of_mem _ hj)) h
      | op v chk =>
        simp only at h ⊢
        refine ⟨fun c hc _ => chkG_at h.1 c.2 (List.mem_map.2 ⟨c, hc, rfl⟩), dopW_mono (fun s' h' => seqS_of (fun j hj => hi j (List.mem_cons_of_mem _ hj)) h') h.2⟩

theorem treeS_of {E : Env} {A : S → Prop} {tab : List DT} : ∀ {t : OT} {L : Array Bool} {s : S}, (∀ i ∈ t.all, i < tab.length) → dtrP E A (dtrOf tab t) s → treeS (stepD E tab) A t L s
  | .nil, _, _, _, h => h
  | .op i t, L, s, hi, h => by
    have hlt := hi i (by simp [OT.all])
    have hr : ∀ j ∈ t.all, j < tab.length := fun j hj => hi j (by simp [OT.all, hj])
    unfold dtrOf dtrP dopOf at h
    unfold treeS stepD
    cases ht : tab[i]? with
    | none => rw [List.getElem?_eq_none_iff] at ht; omega
    | some x =>
      rw [ht] at h
      cases x with
      | silent d => exact treeS_of hr h
      | op v chk =>
        simp only [dopsP] at h ⊢
        refine ⟨fun c hc _ => chkG_at h.1 c.2 (List.mem_map.2 ⟨c, hc, rfl⟩), dopW_mono (fun s' h' => treeS_of hr h') h.2⟩
  | .br a b, L, s, hi, h => ⟨treeS_of (fun j hj => hi j (by simp [OT.all, hj])) h.1, treeS_of (fun j hj => hi j (by simp [OT.all, hj])) h.2⟩

theorem treeB_lt {free : Nat → Bool} {dm : List Nat} {n : Nat} : ∀ {t : OT} {m : Nat} {ex : Bool}, treeB free dm n t m ex = true → ∀ i ∈ t.all, i < n
  | .op i t, m, ex, h, j, hj => by
    simp only [treeB, Bool.and_eq_true] at h
    rcases List.mem_cons.1 hj with rfl | hj
    · have := Nat.le_of_ble_eq_true h.1.1.1; omega
    · exact treeB_lt h.2 j hj
  | .br a b, m, ex, h, j, hj => by
    simp only [treeB, Bool.and_eq_true] at h
    rcases List.mem_append.1 hj with hj | hj
    · exact treeB_lt h.1.2 j hj
    · exact treeB_lt h.2 j hj

theorem seqB_lt {free : Nat → Bool} {dm : List Nat} {n : Nat} : ∀ {l : List Nat} {m : Nat}, seqB free dm n l m = true → ∀ i ∈ l, i < n
  | i :: l, m, h, j, hj => by
    simp only [seqB, Bool.and_eq_true] at h
    rcases List.mem_cons.1 hj with rfl | hj
    · have := Nat.le_of_ble_eq_true h.1.1.1; omega
    · exact seqB_lt h.2 j hj

section
variable {P : Program} {E : Env} {w0 : Cx} {rd : Option Nat}

/-- What both kinds of orders ask for. -/
theorem draw_any (hE : EnvOk P E) (hm : P.follows .mixedOrders = true) {ops : Array Oper} {vs : List VOp} (hvs : vopsOf P ops ops.toList = some vs) (c0 : allocOk ops.toList vs = true) (c1 : Nat.beq (clos (directs .any ops)).length ops.size = true) (c2 : closOk (directs .any ops) (clos (directs .any ops)) ops.size = true) (c3 : belowOk (directs .any ops) 0 = true)
    (c4 : silOk (cloOf (clos (directs .any ops))) (silOf vs 0) (tabOf (cloOf (clos (directs .any ops))) vs vs 0) 0 = true) (c5 : distinctB ((silOf vs 0).map (·.2.1)) = true) {A : S → Prop} {κ : Kont} {s : S} {a : Act} {sv : List Act} {w : World} {id : Nat}
    (h : ∀ s0, s0 = runAl s ((silOf vs 0).map (·.2)) → (∀ (j : Nat) (L : Array Bool) (s : S) (A B : S → Prop), (∀ s, A s → B s) → stepD E (tabOf (cloOf (clos (directs .any ops))) vs vs 0) j L A s → stepD E (tabOf (cloOf (clos (directs .any ops))) vs vs 0) j L B s) →
      (∀ i L s, (frees (cloOf (clos (directs .any ops))) (tabOf (cloOf (clos (directs .any ops))) vs vs 0) ops.size 0).getD i false = true → ¬ stepD E (tabOf (cloOf (clos (directs .any ops))) vs vs 0) i L (fun _ => False) s) →
      (∀ (i : Nat), (frees (cloOf (clos (directs .any ops))) (tabOf (cloOf (clos (directs .any ops))) vs vs 0) ops.size 0).getD i false = true → ∀ (j : Nat) (L : Array Bool) (s : S) (A : S → Prop), Down .any ops L → i ∈ Region.ready .any ops L → j ∈ Region.ready .any ops L → j ≠ i → stepD E (tabOf (cloOf (clos (directs .any ops))) vs vs 0) i L (stepD E (tabOf (cloOf (clos (directs .any ops))) vs vs 0) j (L.setIfInBounds i true) A) s → stepD E (tabOf (cloOf (clos (directs .any ops))) vs vs 0) j L (stepD E (tabOf (cloOf (clos (directs .any ops))) vs vs 0) i (L.setIfInBounds j true) A) s) →
      anyS (stepD E (tabOf (cloOf (clos (directs .any ops))) vs vs 0)) A .any ops ops.size (Array.replicate ops.size false) s0) (hR : Rl w0 s a sv w) (hK : ∀ s a w, A s → Rl w0 s a sv w → κ .normal a w) : (Code.region id ops true).wpIn (Wd rd) 0 P κ a w := by
  have hlen : vs.length = ops.size := by rw [vopsOf_length hvs]; simp
  have htl : ∀ (clo : Nat → Nat → Bool) (l : List VOp) (j : Nat), (tabOf clo vs l j).length = l.length := by
    intro clo l
    induction l with
    | nil => intro j; rfl
    | cons v l ih => intro j; simp only [tabOf, List.length_cons, ih]
  have hsn : ((silOf vs 0).map (·.2.1)).Nodup := distinctB_nodup c5
  have hget : ∀ (i : Nat) (v : VOp), vs[i]? = some v → ∃ o, ops[i]? = some o ∧ vopOf P ops o = some v := by
    intro i v hv
    obtain ⟨o, h1, h2⟩ := vopsOf_get hvs i v hv
    exact ⟨o, by simpa using h1, h2⟩
  have hok : RegOk P ops (tabOf (cloOf (clos (directs .any ops))) vs vs 0) (silP (lenH s.hp) (silOf vs 0)) (cloOf (clos (directs .any ops))) := by
    refine ⟨by rw [silP_fst]; exact silOf_nodup, silP_apart hsn, fun i d ht => ?_, fun i v chk ht => ?_⟩
    · rw [tabOf_get] at ht
      obtain ⟨v, hv, he⟩ := Option.map_eq_some_iff.1 ht
      unfold entryOf at he
      cases hs : silentOf v with
      | none => rw [hs] at he; cases he
      | some x =>
        obtain ⟨d', z⟩ := x
        rw [hs] at he; cases he
        obtain ⟨o, ho, hvo⟩ := hget i v hv
        obtain ⟨e, hop⟩ := allocOk_at c0 i o v (by simpa using ho) hv (by rw [hs]; rfl)
        obtain ⟨g1, g2, g3, g4⟩ := silentOf_inv hs
        obtain ⟨xs, k1, k2, k3, k4, k5⟩ := vopOf_inv' hvo
        obtain ⟨p, hp, hp1, hp2⟩ := silP_mem (n := lenH s.hp) (mem_silOf.2 ⟨i, v, hv, by omega, hs⟩ : (i, d, z) ∈ silOf vs 0)
        refine ⟨p, o, e, hp, ho, hop, ?_, ?_, ?_⟩
        · rcases k5 with k5 | ⟨_, _, _, _, _, k5⟩
          · exact k5.1
          · rw [g2] at k5; cases k5
        · rw [g3] at k1; rw [hp2]; exact vop_alloc' hop k1 g4
        · rw [← k4, g1, hp1]
    · rw [tabOf_get] at ht
      obtain ⟨u, hu, he⟩ := Option.map_eq_some_iff.1 ht
      unfold entryOf at he
      cases hs : silentOf u with
      | some x => rw [hs] at he; cases he
      | none =>
        rw [hs] at he
        simp only [DT.op.injEq] at he
        obtain ⟨rfl, hchk⟩ := he
        refine ⟨fun p hp => ?_, hget i u hu, fun x hx => ?_⟩
        · obtain ⟨_, hm⟩ := mem_silP hp
          obtain ⟨i', v', h1, h2, h3⟩ := mem_silOf.1 hm
          have : i' = i := by omega
          subst this
          rw [hu] at h1; cases h1
          rw [hs] at h3; cases h3
        · obtain ⟨k, p⟩ := x
          have := silOk_at c4 i u chk (by rw [tabOf_get, hu]; simp [entryOf, hs, ← hchk]) (k, p.slot, p.cells) (mem_silP hx).2
          simpa using this
  refine region_sound (free := fun i => (frees (cloOf (clos (directs .any ops))) (tabOf (cloOf (clos (directs .any ops))) vs vs 0) ops.size 0).getD i false) hE hm (Nat.eq_of_beq_eq_true c1) c2 hok (fun i hi => ?_)
    (h _ rfl) ?_ hK (fun x hx => ?_) (fun i o ho e he hb => ?_)
  · have := frees_at _ _ _ hi
    rw [Nat.zero_add] at this
    unfold freeB at this
    split at this
    · exact .inl ⟨_, ‹_›⟩
    · rename_i v hv
      simp only [Bool.and_eq_true] at this
      refine .inr ⟨v, hv, this.1, fun j t ht => ?_⟩
      have := commAll_at this.2 j t ht
      rwa [Nat.zero_add] at this
    · cases this
  · have h0 := pend_all (w0 := w0) ((silOf vs 0).map (·.2)) [] s (distinct_of (by rw [List.map_map]; exact hsn) (fun _ _ => by simp)) (pr_nil (rl_drawn hR (w.drawn + 1)))
    have := pends_perm (l := silOf vs 0) (n := lenH s.hp) (Pd := [])
    rw [List.append_nil] at this
    exact pr_perm this h0
  · obtain ⟨k, p⟩ := x
    obtain ⟨i, v, h1, h2, _⟩ := mem_silOf.1 (mem_silP hx).2
    have := (List.getElem?_eq_some_iff.1 h1).1
    simp only; omega
  · have hlt := belowOk_at c3 i
    rw [directs_at ho, Nat.zero_add] at hlt
    have hbit : (maskL .any o.after.toList).testBit e.on = true := maskL_spec.2 ⟨e, by simpa using he, hb, rfl⟩
    rcases Nat.lt_or_ge e.on i with h' | h'
    · exact h'
    · have := Nat.testBit_lt_two_pow (Nat.lt_of_lt_of_le hlt (Nat.pow_le_pow_right (by omega) h'))
      rw [this] at hbit; cases hbit

theorem tab_len {clo : Nat → Nat → Bool} {vs : List VOp} : ∀ (l : List VOp) (j : Nat), (tabOf clo vs l j).length = l.length
  | [], _ => rfl
  | _ :: l, j => by simp only [tabOf, List.length_cons, tab_len l]

theorem draw_sound (hE : EnvOk P E) (hm : P.follows .mixedOrders = true) {ops : Array Oper} {al : List (Nat × AL)} {dl : List DOp} (hd : drawOf P ops = some (al, dl)) {A : S → Prop} {κ : Kont} {s : S} {a : Act} {sv : List Act} {w : World} {id : Nat}
    (h : dopsP E A dl (runAl s al)) (hR : Rl w0 s a sv w) (hK : ∀ s a w, A s → Rl w0 s a sv w → κ .normal a w) : (Code.region id ops true).wpIn (Wd rd) 0 P κ a w := by
  unfold drawOf at hd
  obtain ⟨vs, hvs, hd⟩ := Option.bind_eq_some_iff.1 hd
  simp only at hd
  split at hd
  · rename_i hc
    simp only [Option.some.injEq, Prod.mk.injEq] at hd
    obtain ⟨rfl, rfl⟩ := hd
    simp only [Bool.and_eq_true] at hc
    obtain ⟨⟨⟨⟨⟨⟨⟨c0, c1⟩, c2⟩, c3⟩, c4⟩, c5⟩, c6⟩, c7⟩ := hc
    have hlen : vs.length = ops.size := by rw [vopsOf_length hvs]; simp
    refine draw_any hE hm hvs c0 c1 c2 c3 c4 c5 (fun s0 hs0 m1 m2 m3 => ?_) hR hK
    subst hs0
    rw [← Nat.eq_of_beq_eq_true c6]
    have := seq_any m1 m2 m3 _ 0 (Array.replicate ops.size false) _ c7 corr_none down_none (seqS_of (fun i hi => by rw [tab_len, hlen]; exact seqB_lt c7 i hi) h)
    rw [Nat.eq_of_beq_eq_true c6] at this ⊢
    exact this
  · cases hd

theorem drawT_sound (hE : EnvOk P E) (hm : P.follows .mixedOrders = true) {ops : Array Oper} {al : List (Nat × AL)} {t : DTr} (hd : drawTOf P ops = some (al, t)) {A : S → Prop} {κ : Kont} {s : S} {a : Act} {sv : List Act} {w : World} {id : Nat}
    (h : dtrP E A t (runAl s al)) (hR : Rl w0 s a sv w) (hK : ∀ s a w, A s → Rl w0 s a sv w → κ .normal a w) : (Code.region id ops true).wpIn (Wd rd) 0 P κ a w := by
  unfold drawTOf at hd
  obtain ⟨vs, hvs, hd⟩ := Option.bind_eq_some_iff.1 hd
  simp only at hd
  split at hd
  · rename_i hc
    simp only [Option.some.injEq, Prod.mk.injEq] at hd
    obtain ⟨rfl, rfl⟩ := hd
    simp only [Bool.and_eq_true] at hc
    obtain ⟨⟨⟨⟨⟨⟨⟨c0, c1⟩, c2⟩, c3⟩, c4⟩, c5⟩, c6⟩, c7⟩ := hc
    have hlen : vs.length = ops.size := by rw [vopsOf_length hvs]; simp
    refine draw_any hE hm hvs c0 c1 c2 c3 c4 c5 (fun s0 hs0 m1 m2 m3 => ?_) hR hK
    subst hs0
    have := (tree_any m1 m2 m3 _ 0 false (Array.replicate ops.size false) _ c7 corr_none down_none (treeS_of (fun i hi => by rw [tab_len, hlen]; exact treeB_lt c7 i hi) h)).1 rfl
    rw [Nat.eq_of_beq_eq_true c6] at this
    exact this
  · cases hd

end
end Go.Vx

/- The executor is sound: the main theorem, and how a contract is proved with it. -/
/- The executor is sound: the main theorem, and how a contract is proved with it. -/
set_option linter.all false
namespace Go.Vx
open Go.RowKit
section
variable {P : Program} {E : Env} {Q : SV → List HO → Prop} {vr : List VR} {w0 : Cx0} {rd : Option Nat} {ks : List (Nat × Obj)}

/-! ### Regions that draw their order -/

theorem dop_run {n : Nat} {v : VOp} {K : List It} {s : S} (h : dop E (run E Q vr n) v K s) : dopW E v (fun s' => ∃ m, m ≤ n ∧ run E Q vr m K s') s := by
  obtain ⟨d, g, op, xs⟩ := v
  cases g with
  | none =>
    simp only [dop] at h
    unfold dopW
    simp only
    cases hq : op.quiet with
    | true =>
      rw [hq] at h
      simp only [dpl, dq] at h
      simp only [fEff]
      cases he : eff s.hp (lenH s.hp) op (s.args xs) with
      | none => rw [he] at h; exact h.elim
      | some e =>
        obtain ⟨p, x, u⟩ := e
        rw [he] at h
        cases u <;> try exact h.elim
        exact ⟨h.1, n, Nat.le_refl _, h.2⟩
    | false =>
      rw [hq] at h
      simp only [dpl, dcl] at h
      simp only [heavyW]
      cases hc : callee E op (s.args xs) with
      | none =>
        rw [hc] at h
        simp only [effK] at h
        simp only [effW]
        cases he : eff s.hp (lenH s.hp) op (s.args xs) with
        | none => rw [he] at h; exact h.elim
        | some e => rw [he] at h; exact ⟨h.1, n, Nat.le_refl _, h.2⟩
      | some fy =>
        obtain ⟨f, ys⟩ := fy
        rw [hc] at h
        simp only [dct] at h
        simp only [ctW]
        cases hct : E.ct f with
        | none => rw [hct] at h; exact h.elim
        | some c =>
          rw [hct] at h
          exact ⟨h.1, (run_res n h.2).mono fun r hs ⟨m, hm, h2⟩ => ⟨m, by omega, h2⟩⟩
  | some gp =>
    obtain ⟨g, pol⟩ := gp
    simp only [dop, dgd] at h
    unfold dopW
    simp only
    cases hgd : guardOf (getL s.fr g) pol with
    | none => rw [hgd] at h; exact h.elim
    | some gb =>
      rw [hgd] at h
      simp only [dgq] at h
      cases hq : op.quiet with
      | true =>
        rw [hq] at h
        simp only [effG] at h
        simp only [fEff, hgd]
        cases he : eff s.hp (lenH s.hp) op (unoptsO op gb (s.args xs)).2 with
        | none => rw [he] at h; exact h.elim
        | some e =>
          obtain ⟨p, x, u⟩ := e
          rw [he] at h
          cases u <;> try exact h.elim
          exact ⟨⟨h.1, h.2.1⟩, n, Nat.le_refl _, h.2.2⟩
      | false =>
        rw [hq] at h
        simp only [dctG] at h
        simp only [heavyGW, hgd, ctGW]
        cases hct : ctOf E op (unoptsO op gb (s.args xs)).2 with
        | none => rw [hct] at h; exact h.elim
        | some c =>
          rw [hct] at h
          obtain ⟨c, ys⟩ := c
          obtain ⟨hp, hno, h⟩ := h
          obtain ⟨m, r, hm, h1, h2⟩ := run_resG n h
          exact ⟨hp, hno, r, ⟨m, by omega, h1⟩, h2⟩

theorem dopsP_mono {A B : S → Prop} : ∀ (l : List DOp), (∀ s, A s → B s) → ∀ {s : S}, dopsP E A l s → dopsP E B l s
  | [], h, _, hs => h _ hs
  | ⟨_, _⟩ :: l, h, _, hs => ⟨hs.1, dopW_mono (fun _ h' => dopsP_mono l h h') hs.2⟩

theorem dops_run : ∀ (l : List DOp) (n : Nat) {K : List It} {s : S}, run E Q vr n (.dops l :: K) s → dopsP E (fun s' => ∃ m, m < n ∧ run E Q vr m K s') l s
  | _, 0, _, _, h => h.elim
  | [], n + 1, _, _, h => ⟨n, Nat.lt_succ_self n, h⟩
  | ⟨v, chk⟩ :: l, n + 1, _, _, h => ⟨h.1, dopW_mono (fun _ ⟨m, hm, h'⟩ => dopsP_mono l (fun _ ⟨m', hm', h''⟩ => ⟨m', by omega, h''⟩) (dops_run l m h')) (dop_run h.2)⟩

theorem dtrP_mono {A B : S → Prop} : ∀ (t : DTr), (∀ s, A s → B s) → ∀ {s : S}, dtrP E A t s → dtrP E B t s
  | .leaf, h, _, hs => h _ hs
  | .ops l t, h, _, hs => dopsP_mono l (fun _ h' => dtrP_mono t h h') hs
  | .br a b, h, _, hs => ⟨dtrP_mono a h hs.1, dtrP_mono b h hs.2⟩

theorem dtr_run : ∀ (t : DTr) (n : Nat) {K : List It} {s : S}, run E Q vr n (.dtr t :: K) s → dtrP E (fun s' => ∃ m, m < n ∧ run E Q vr m K s') t s
  | _, 0, _, _, h => h.elim
  | .leaf, n + 1, _, _, h => ⟨n, Nat.lt_succ_self n, h⟩
  | .ops l t, n + 1, _, _, h => dopsP_mono l (fun _ ⟨m, hm, h'⟩ => dtrP_mono t (fun _ ⟨m', hm', h''⟩ => ⟨m', by omega, h''⟩) (dtr_run t m h')) (dops_run l n h)
  | .br a b, n + 1, _, _, h => ⟨dtrP_mono a (fun _ ⟨m', hm', h''⟩ => ⟨m', by omega, h''⟩) (dtr_run a n h.1), dtrP_mono b (fun _ ⟨m', hm', h''⟩ => ⟨m', by omega, h''⟩) (dtr_run b n h.2)⟩

/-! ### Frames -/

theorem in_frame {fn : Func} {c : Code} {b : VC} {f : FuncId} (hf : P.funcs[f]? = some fn) (hbody : fn.body = some c) {R : Ending → World → Prop} {args : Array Value} {w : World}
    (h : (Exit.then (c.wpIn (Wd none) 0 P (bodyPostM (Wd none) 0 P fn R)) (bodyPostM (Wd none) 0 P fn R)) .normal { tmps := args ++ Array.replicate (fn.ntmps - args.size) undef, defers := [] } w) : CallsIn (Wd none) 0 P f args w R :=
  callsIn_of_wp_marks hf hbody trivial h

theorem vfunc_inv {fn : Func} {vf : VF} (h : vfunc P fn = some vf) : ∃ c, fn.body = some c ∧ vcode P c = some vf.body ∧ vress P fn.results.toList = some vf.res ∧ vf.ntmps = fn.ntmps := by
  unfold vfunc at h
  obtain ⟨c, hbody, h⟩ := Option.bind_eq_some_iff.1 h
  obtain ⟨b, hcode, h⟩ := Option.bind_eq_some_iff.1 h
  obtain ⟨res, hres, rfl⟩ := Option.map_eq_some_iff.1 h
  exact ⟨c, hbody, hcode, hres, rfl⟩

/-- The parameters of a round. -/
theorem putPs_ok {w : World} {bs : List BK} {B : Bd} : ∀ {ps : List Nat} {ys fr : List SV} {vs : List Value} {tmps : Array Value}, RepL w bs B fr tmps.toList → RepL w bs B ys vs → RepL w bs B (putPs fr ps ys) ((ps.zip vs).foldl (fun t (p : Nat × Value) => t.setIfInBounds p.1 p.2) tmps).toList
  | [], ys, fr, vs, tmps, h, _ => by cases ys <;> simpa [putPs] using h
  | p :: ps, _, fr, _, tmps, h, .nil => by simpa [putPs] using h
  | p :: ps, _, fr, _, tmps, h, .cons y v ys vs h1 h2 => by
    simp only [putPs, List.zip_cons_cons, List.foldl_cons]
    refine putPs_ok ?_ h2
    rw [Array.toList_setIfInBounds]
    exact h.set p h1

/-- One operation that is there, no guard in the way. -/
theorem op_sound (hE : EnvOk P E) {fn0 : Func} {R0 : Ending → World → Prop} {n : Nat} (ih : ∀ m, m ≤ n → ∀ (K : List It) (s : S), run E Q vr m K s → ∀ (sv : List Act) (ks : List (Nat × Obj)) (rd : Option Nat) (κ : Kont) (a : Act) (w : World), KRel P w0 (bodyPostM (Wd none) 0 P fn0 R0) K sv ks rd κ → Rl ⟨w0, ks⟩ s a sv w → κ .normal a w)
    {all : Array Oper} {o : Oper} {rest : List Oper} {l : List VOp} {vo : VO} {ops : List Operand} {xs : List SV} {K : List It} {s : S} {sv : List Act} {κ : Kont} {a : Act} {w : World}
    (hv : vop P o = some (vo, ops)) (hcc : vo.isCall = true → opIsCall o.op = true) (hrest : vopsOf P all rest = some l) (hx : ∀ bs, RepL w bs w0.bd s.fr a.tmps.toList → RepL w bs w0.bd xs (ops.map a.eval))
    (h : runOp E (run E Q vr n) o.dst vo xs (.ops l :: K) s) (hk : KRel P w0 (bodyPostM (Wd none) 0 P fn0 R0) K sv ks rd κ) (hR : Rl ⟨w0, ks⟩ s a sv w) : o.wpIn (Wd rd) 0 P a w (wpListIn (Wd rd) 0 P all κ rest) κ := by
  have hK : KRel P w0 (bodyPostM (Wd none) 0 P fn0 R0) (.ops l :: K) sv ks rd (Exit.then (wpListIn (Wd rd) 0 P all κ rest) κ) := .ops all rest l K sv ks rd κ hrest hk
  obtain ⟨bs, hf, hsv, hH, hb, hoth⟩ := id hR
  have hxx := hx bs hf
  have hB : w0.heap.size ≤ w.heap.size := hb.size
  have hnd := vop_nodefer hv
  unfold runOp at h
  cases hc : callee E vo xs with
  | none =>
    rw [hc] at h
    simp only [opK] at h
    cases hy : yld vo xs with
    | some ly =>
      obtain ⟨l', ys⟩ := ly
      rw [hy] at h
      simp only [yldK] at h
      have hvo : vo = .callv ∧ xs = .fn (.yield l') [] [] :: ys := by
        unfold yld at hy
        split at hy
        · split at hy
          · cases hy; exact ⟨rfl, rfl⟩
          · cases hy
        · cases hy
      obtain ⟨rfl, rfl⟩ := hvo
      cases hfr : findR (.ops l :: K) with
      | none => rw [hfr] at h; exact h.elim
      | some x =>
        obtain ⟨l2, ps, va, vb⟩ := x
        rw [hfr] at h
        cases hss : s.saved with
        | nil => rw [hss] at h; exact h.elim
        | cons fr svs =>
          rw [hss] at h
          obtain ⟨⟨rfl, hlen⟩, hrun⟩ := h
          obtain ⟨q, sa, sv', ks', rfl, rfl, rfl, rfl, htm, hva, hvb⟩ := findR_ok hfr hK
          obtain ⟨c, hop, hcall⟩ := vop_call hv (hcc rfl) rfl
          rcases hcall with ⟨_, h1, _⟩ | ⟨x, _, hcal, rfl⟩ | ⟨_, _, h1, _⟩
          · cases h1
          · obtain ⟨v, vs, hvs, g1, g2⟩ := hxx.cons_inv
            simp only [List.map_cons, List.cons.injEq] at hvs
            obtain ⟨hv1, rfl⟩ := hvs
            obtain ⟨us, us', rfl, g3, g4⟩ := g1.fn_inv
            cases g3.nil_inv; cases g4.nil_inv
            have hrec := rl_record_at hR
            have hsz : (#[] ++ c.args.map a.eval ++ #[] : Array Value).size = q.ps.length := by
              have := g2.length
              simp only [List.length_map, Array.length_toList] at this
              have e2 : ∀ l : List Nat, lenN l = l.length := fun l => by induction l with | nil => rfl | cons _ l ih => simp [lenN, ih]
              rw [e2] at hlen
              simp; omega
            have hex : (execOp a.eval o).run P w = .ok (.round l' q.fn ((q.ps.toArray.zip (#[] ++ c.args.map a.eval ++ #[])).foldl (fun tmps (t, a) => tmps.setIfInBounds t a) q.tmps) q.ca q.cb) w := by
              obtain ⟨dst, op, type, pos, after, guard⟩ := o
              simp only at hop
              subst hop
              simp only [execOp, resolve, hcal, hv1, Deferred.ofValue, Sem.run_bind, Sem.run_pure, Result.andThen_ok, invoke]
              exact run_yield hrec (by simpa [Rec.at] using hsz)
            unfold Oper.wpIn
            rw [Oper.semAt_eq _ _ _ hnd, hex]
            refine ⟨fun _ _ => trivial, fun h => (by cases h), ?_⟩
            refine roundIn_of_wpIn trivial ?_
            refine ih n (Nat.le_refl _) _ _ hrun (a :: sa :: sv') _ _ _ { tmps := _, defers := [] } _ (.code q.ca va _ _ _ (some l') _ hva (.rbeg l' q _ _ ks' _ (.code q.cb vb _ _ _ (some l') _ hvb (.rend o.dst l' q a _ _ ks' _ _ (fun v w h => h) hK)))) ?_
            rw [hss] at hsv
            cases hsv with
            | cons _ _ _ _ k1 k2 =>
              refine ⟨bs, ?_, .cons _ _ _ _ hf (by rw [hss]; exact .cons _ _ _ _ k1 k2), hH, hb, hoth.push⟩
              have := putPs_ok (ps := q.ps) k1 g2
              rw [htm]
              have e : q.ps.toArray.zip (#[] ++ c.args.map a.eval ++ #[]) = (q.ps.zip (c.args.toList.map a.eval)).toArray := by apply Array.ext'; simp
              rw [e]
              simpa using this
          · cases h1
    | none =>
    rw [hy] at h
    simp only [yldK, effK] at h
    cases he : eff s.hp (lenH s.hp) vo xs with
    | none => rw [he] at h; exact h.elim
    | some e =>
      rw [he] at h
      obtain ⟨r, v, w', bs', hrun, hr, h1, h2, h3, h4, h5⟩ := vop_ok (ρ := a.eval) hv he h.1 hxx (fun _ => rfl) (fun _ => rfl) hH hB
      refine wp_of_run hnd (hrun o.dst o.type o.pos o.after o.guard) hr ?_
      exact ih n (Nat.le_refl _) _ _ h.2 sv _ _ _ _ _ hK (upd_rel (op := o.op) hf hsv hb hoth h1 h2 h3 h4 h5 o.dst)
  | some fy =>
    obtain ⟨f, ys⟩ := fy
    rw [hc] at h
    have hcall : vo.isCall = true := by
      unfold callee at hc
      split at hc <;> first | rfl | cases hc
    simp only [opK, callK] at h
    cases hct : E.ct f with
    | some c =>
      rw [hct] at h
      obtain ⟨hok, hen⟩ := hE.ct f c hct
      obtain ⟨vs, hys, hrun⟩ := call_ok hE.meth hv (hcc hcall) hc hxx (fun _ => rfl) hen
      refine wp_of_enter hnd hrun ?_
      obtain ⟨F, up, hargs2, hal⟩ := callee_args c.alias hH.v hB 3 hys h.1
      refine (hok _ vs w F up _ hargs2 (run_res n h.2)).mono ?_
      rintro e w' ⟨r, hs, v, bs2, ⟨m, hm, hrun'⟩, rfl, h1, h2, h3, h4⟩
      exact ih m (by omega) _ _ hrun' sv _ _ _ _ _ hK (call_rel (f := f) (c := c) hf hsv hH hb hoth o.dst h1 h2 h3 h4 hal _ fun _ h => h)
    | none =>
      rw [hct] at h
      simp only [inlK] at h
      cases hfn : E.fn f with
      | none => rw [hfn] at h; exact h.elim
      | some vf =>
        rw [hfn] at h
        obtain ⟨fn, hfs, hvf, hen⟩ := hE.fn f vf hfn
        obtain ⟨vs, hys, hrun⟩ := call_ok hE.meth hv (hcc hcall) hc hxx (fun _ => rfl) hen
        refine wp_of_enter hnd hrun ?_
        obtain ⟨c, hbody, hcode, hres, hnt⟩ := vfunc_inv hvf
        refine calls_of_wd (n := 0) (in_frame (b := vf.body) hfs hbody ?_)
        refine ih n (Nat.le_refl _) _ _ h (a :: sv) _ _ _ _ _ (.code c vf.body _ _ _ _ _ hcode (.frame o.dst vf.res fn a _ _ _ _ _ _ hres (fun v w h => h) hK)) ?_
        refine ⟨bs, ?_, .cons _ _ _ _ hf hsv, hH, hb, hoth.push⟩
        have := padL_ok (n := fn.ntmps) hys
        rw [hnt]
        simpa using this

theorem vopsOf_cons {all : Array Oper} {rest : List Oper} {v : VOp} {l : List VOp} (h : vopsOf P all rest = some (v :: l)) : ∃ o r, rest = o :: r ∧ vopOf P all o = some v ∧ vopsOf P all r = some l := by
  cases rest with
  | nil => cases h
  | cons o r =>
    simp only [vopsOf] at h
    obtain ⟨x, hx, h⟩ := Option.bind_eq_some_iff.1 h
    obtain ⟨y, hy, h⟩ := Option.map_eq_some_iff.1 h
    cases h
    exact ⟨o, r, rfl, hx, hy⟩

theorem vopsOf_nil {all : Array Oper} {rest : List Oper} (h : vopsOf P all rest = some []) : rest = [] := by
  cases rest with
  | nil => rfl
  | cons o r =>
    simp only [vopsOf] at h
    obtain ⟨x, hx, h⟩ := Option.bind_eq_some_iff.1 h
    obtain ⟨y, hy, h⟩ := Option.map_eq_some_iff.1 h
    cases h

theorem vopOf_inv {all : Array Oper} {o : Oper} {v : VOp} (h : vopOf P all o = some v) : ∃ ops, vop P o = some (v.op, ops) ∧ X.ofs ops = some v.xs ∧ (v.op.isCall = true → opIsCall o.op = true) ∧ v.dst = o.dst ∧
    ((o.guard = none ∧ v.g = none) ∨ ∃ j b g, o.guard = some (j, b) ∧ slotOf all j = some g ∧ v.g = some (g, b)) := by
  unfold vopOf at h
  obtain ⟨⟨vo, ops⟩, h1, h⟩ := Option.bind_eq_some_iff.1 h
  obtain ⟨xs, h2, h⟩ := Option.bind_eq_some_iff.1 h
  split at h
  · cases h
  · rename_i hne
    have hne : vo.isCall = true → opIsCall o.op = true := by simpa using hne
    split at h
    · cases h; exact ⟨ops, h1, h2, hne, rfl, .inl ⟨‹_›, rfl⟩⟩
    · obtain ⟨g, hg, rfl⟩ := Option.map_eq_some_iff.1 h
      exact ⟨ops, h1, h2, hne, rfl, .inr ⟨_, _, g, ‹_›, hg, rfl⟩⟩

/-- THE EXECUTOR IS SOUND. -/
theorem run_sound (hE : EnvOk P E) {fn0 : Func} {R0 : Ending → World → Prop} (hres : vress P fn0.results.toList = some vr)
    (hR0 : ∀ r hp v w' bs, Q r hp → Rep w' bs w0.bd r v → Hp w' bs w0.bd hp → Below w0.heap.size w0.toWorld w' → R0 (.returned v) w') :
    ∀ (n : Nat) (K : List It) (s : S), run E Q vr n K s → ∀ (sv : List Act) (ks : List (Nat × Obj)) (rd : Option Nat) (κ : Kont) (a : Act) (w : World), KRel P w0 (bodyPostM (Wd none) 0 P fn0 R0) K sv ks rd κ → Rl ⟨w0, ks⟩ s a sv w → κ .normal a w := by
  have main : ∀ (N n : Nat), n ≤ N → ∀ (K : List It) (s : S), run E Q vr n K s → ∀ (sv : List Act) (ks : List (Nat × Obj)) (rd : Option Nat) (κ : Kont) (a : Act) (w : World), KRel P w0 (bodyPostM (Wd none) 0 P fn0 R0) K sv ks rd κ → Rl ⟨w0, ks⟩ s a sv w → κ .normal a w := by
    intro N
    induction N with
    | zero => intro n hn K s h; have : n = 0 := by omega
              subst this; exact h.elim
    | succ N ihN =>
      intro n hn K s h sv ks rd κ a w hk hR
      cases n with
      | zero => exact h.elim
      | succ n =>
      have ih : ∀ m, m ≤ n → ∀ (K : List It) (s : S), run E Q vr m K s → ∀ (sv : List Act) (ks : List (Nat × Obj)) (rd : Option Nat) (κ : Kont) (a : Act) (w : World), KRel P w0 (bodyPostM (Wd none) 0 P fn0 R0) K sv ks rd κ → Rl ⟨w0, ks⟩ s a sv w → κ .normal a w := fun m hm => ihN m (by omega)
      have ihn := ih n (Nat.le_refl _)
      have hjump : ∀ {K' : List It} {d : Option Nat} {f : Act → World → Prop}, rendK (run E Q vr n) d false K' s.hp s.saved → Jumps P w0 (bodyPostM (Wd none) 0 P fn0 R0) K' d sv ks rd f → f a w := by
        rintro K' d f hr ⟨c, q, l, ita, sv', ks', κ', rfl, rfl, rfl, hk', hf⟩
        cases hs : s.saved with
        | nil => rw [hs] at hr; exact hr.elim
        | cons fr svs =>
          rw [hs] at hr
          have hat := rl_record_at hR
          have hend := run_endRound (P := P) (some c) hat
          have h2 := rl_pop hs (rl_record (lp' := q.at .done (some c)) hR)
          exact hf a w _ _ hend (ihn _ _ hr sv' _ _ _ _ _ hk' (put_rel h2 d fun _ _ _ => .x _ _ (.bool _)))
      cases K with
      | nil =>
        cases hk
        rw [r_end] at h
        cases hv : resVals s vr with
        | none => rw [hv] at h; exact h.elim
        | some x =>
          obtain ⟨p, vs⟩ := x
          rw [hv] at h
          obtain ⟨ms, hms⟩ := rl_marks hR
          refine leaves_ok ms hms hR fun w' hR' => ?_
          obtain ⟨bs, hf, hsv, hH, hb, hoth⟩ := hR'
          obtain ⟨v, h1, h2⟩ := results_ok (P := P) hf hH hres hv h.1
          exact ⟨v, h1, hR0 _ _ _ _ _ h.2 h2 hH hb⟩
      | cons x K =>
      cases x with
      | inBlock i =>
        cases hk with | inBlock _ _ _ _ _ κ hk => exact ihn _ _ h sv _ _ κ a w hk hR
      | inLoop I =>
        cases hk with | inLoop _ J _ _ _ _ κ hJ hk => exact hJ s a w h hR
      | frame d res =>
        cases hk with
        | frame _ _ fn sa _ sv _ rd κ R hr hRR hk =>
          rw [r_frame] at h
          cases hv : resVals s res with
          | none => rw [hv] at h; exact h.elim
          | some x =>
            obtain ⟨p, vs⟩ := x
            rw [hv] at h
            cases hs : s.saved with
            | nil => rw [hs] at h; exact h.elim
            | cons fr sv' =>
              rw [hs] at h
              obtain ⟨ms, hms⟩ := rl_marks hR
              refine leaves_ok ms hms hR fun w' hR' => ?_
              obtain ⟨bs, hf, hsv, hH, hb, hoth⟩ := id hR'
              obtain ⟨v, h1, h2⟩ := results_ok (P := P) hf hH hr hv h.1
              refine ⟨v, h1, hRR v w' (ihn _ _ h.2 sv _ _ κ _ w' hk ?_)⟩
              obtain ⟨bs2, k1, k2, k3, k4, k5⟩ := rl_pop hs hR'
              rw [hs] at hsv
              cases hsv with
              | cons _ _ _ _ g1 g2 =>
                have hp := rl_pop hs hR'
                refine ⟨bs, put_rep (s := { fr := fr, saved := sv', hp := s.hp }) (a := sa) g1 h2, ?_, ?_, hb, ?_⟩
                · rw [put_saved]; exact g2
                · rw [put_hp]; exact hH
                · rw [List.map_cons, put_defers']
                  exact hoth.pop
      | rfrm res l ps va vb j =>
        cases hk with
        | rfrm _ _ q lp _ _ _ fn sa _ sv ks rd κ hr _ hps htm hva hvb hj hk =>
          rw [r_rfrm] at h
          cases hv : resVals s res with
          | none => rw [hv] at h; exact h.elim
          | some x =>
            obtain ⟨p, vs⟩ := x
            rw [hv] at h
            cases hs : s.saved with
            | nil => rw [hs] at h; exact h.elim
            | cons fr sv' =>
              rw [hs] at h
              obtain ⟨hp, h⟩ := h
              obtain ⟨ms, hms⟩ := rl_marks hR
              refine leaves_ok ms hms hR fun w' hR' => ?_
              obtain ⟨bs, hf, hsv, hH, hb, hoth⟩ := id hR'
              obtain ⟨v, h1, h2⟩ := results_ok (P := P) hf hH hr hv hp
              have hat := rl_record_at hR'
              cases hj with
              | none =>
                refine ⟨v, h1, none, _, run_endLoop hat (by simp [Rec.at]), ?_⟩
                exact ihn _ _ h sv _ _ κ sa _ hk (rl_forget (rl_record (rl_pop hs hR')))
              | some c vc hc =>
                refine ⟨v, h1, some c, _, run_endLoop hat (by simp [Rec.at]), ?_⟩
                exact ihn _ _ h sv _ _ _ sa _ (.code c vc K sv ks rd κ hc hk) (rl_forget (rl_record (rl_pop hs hR')))
      | rbeg =>
        cases hk with
        | rbeg l q _ _ ks κ hk =>
          exact ⟨_, run_beginRound (rl_record_at hR) rfl, ihn _ _ h sv _ _ κ a _ hk (rl_record hR)⟩
      | rend d =>
        cases hk with
        | rend _ l q ita _ sv ks κ R hRR hk =>
          rw [r_rend] at h
          cases hs : s.saved with
          | nil => rw [hs] at h; exact h.elim
          | cons fr sv' =>
            rw [hs] at h
            refine ⟨_, _, run_endRound none (rl_record_at hR), hRR _ _ (ihn _ _ h sv _ _ κ _ _ hk ?_)⟩
            exact put_rel (rl_pop hs (rl_record (lp' := q.at .ready none) hR)) d fun _ _ _ => .x _ _ (.bool _)
      | dops l => cases hk
      | dtr t => cases hk
      | res g al d c => cases hk
      | ops l =>
        cases hk with
        | ops all rest _ _ _ _ _ κ hl hk =>
        show wpListIn (Wd rd) 0 P all κ rest a w
        cases l with
        | nil => rw [vopsOf_nil hl]; exact ihn _ _ h sv _ _ κ a w hk hR
        | cons v l =>
          obtain ⟨o, r, rfl, hvo, hlr⟩ := vopsOf_cons hl
          obtain ⟨ops, h1, h2, h3, h4, h5⟩ := vopOf_inv hvo
          obtain ⟨dst, g, op, xs⟩ := v
          simp only at h1 h2 h3 h4 h5
          subst h4
          have hnd := vop_nodefer h1
          have hx : ∀ bs, RepL w bs w0.bd s.fr a.tmps.toList → RepL w bs w0.bd (s.args xs) (ops.map a.eval) := fun bs hf => X_ofs hf h2
          rcases h5 with ⟨hg, rfl⟩ | ⟨j, pol, gs, hg, hsl, rfl⟩
          · rw [r_op] at h
            exact wpList_op (by simp [Region.wanted, hg]) (op_sound hE ih h1 h3 hlr hx h hk hR)
          · rw [r_opg] at h
            have hKr : KRel P w0 (bodyPostM (Wd none) 0 P fn0 R0) (.ops l :: K) sv ks rd (Exit.then (wpListIn (Wd rd) 0 P all κ r) κ) := .ops all r l K sv ks rd κ hlr hk
            cases hgd : guardOf (getL s.fr gs) pol with
            | none => rw [hgd] at h; exact h.elim
            | some gb =>
              rw [hgd, r_g] at h
              obtain ⟨bs, hf, hsv, hH, hb, hoth⟩ := id hR
              have hw := guard_ok (w := w) hf hg hsl hgd
              have hB : w0.heap.size ≤ w.heap.size := hb.size
              cases hq : op.quiet with
              | true =>
                rw [hq] at h
                simp only [gK] at h
                cases he : eff s.hp (lenH s.hp) op (unoptsO op gb (s.args xs)).2 with
                | none => rw [he] at h; exact h.elim
                | some e =>
                  rw [he] at h
                  obtain ⟨q, val, u⟩ := e
                  cases u <;> try exact h.elim
                  obtain ⟨hp1, hp2, hrun⟩ := h
                  cases gb with
                  | true =>
                    obtain ⟨r', v, w', bs', hrn, hr, k1, k2, k3, k4, k5⟩ := vop_ok (ρ := a.eval) h1 he (hp2 rfl) (unoptsO_ok rfl (hx bs hf) hp1) (fun _ => rfl) (fun _ => rfl) hH hB
                    refine wpList_op hw (wp_of_run hnd (hrn o.dst o.type o.pos o.after o.guard) hr ?_)
                    refine ihn _ _ hrun sv _ _ _ _ _ hKr ?_
                    exact upd_rel (e := ⟨q, .opt true val, .no⟩) (op := o.op) hf hsv hb hoth (.optT _ _ k1) k2 k3 k4 k5 o.dst
                  | false =>
                    exact wpList_not hw (ihn _ _ hrun sv _ _ _ _ _ hKr (put_rel hR o.dst fun _ _ _ => .optF _))
              | false =>
                rw [hq] at h
                simp only [gK, callG] at h
                cases hct : ctOf E op (unoptsO op gb (s.args xs)).2 with
                | none =>
                  rw [hct] at h
                  obtain ⟨hp1, ht, hfl⟩ := h
                  cases gb with
                  | true => exact wpList_op hw (op_sound hE ih h1 h3 hlr (fun bs hf => unoptsO_ok rfl (hx bs hf) hp1) (ht rfl) hk hR)
                  | false => exact wpList_not hw (ihn _ _ (hfl rfl) sv _ _ _ _ _ hKr (put_rel hR o.dst fun _ _ _ => .x _ _ (.junk _)))
                | some c =>
                  rw [hct] at h
                  obtain ⟨c, ys⟩ := c
                  obtain ⟨hp1, hno, hrun⟩ := h
                  obtain ⟨m, rr, hm, hrun', hcs⟩ := run_resG n hrun
                  cases gb with
                  | false => exact wpList_not hw (ih m (by omega) _ _ hrun' sv _ _ _ _ _ hKr (put_rel hR o.dst fun _ _ _ => .optF _))
                  | true =>
                    obtain ⟨f, hcl, hct', hic⟩ := ctOf_inv hct
                    obtain ⟨hok, hen⟩ := hE.ct f c hct'
                    obtain ⟨vs, hys, hrn⟩ := call_ok hE.meth h1 (h3 hic) hcl (unoptsO_ok rfl (hx bs hf) hp1) (fun _ => rfl) hen
                    refine wpList_op hw (wp_of_enter hnd hrn ?_)
                    obtain ⟨F, up, hargs2, hal⟩ := callee_args c.alias hH.v hB 3 hys hno
                    refine (hok _ vs w F up _ hargs2 (hcs rfl)).mono ?_
                    rintro e w' ⟨r', hs, v, bs2, ⟨rfl, rfl⟩, rfl, k1, k2, k3, k4⟩
                    have hcr := call_rel (f := f) (c := c) (d := o.dst) hf hsv hH hb hoth k1 k2 k3 k4 hal (.opt true (shift (lenH s.hp) r')) fun _ h => .optT _ _ h
                    refine ih m (by omega) _ _ hrun' sv _ _ _ _ _ hKr ?_
                    have e0 : ({ fr := s.fr, saved := s.saved, hp := s.hp ++ shiftH (lenH s.hp) [] } : S) = s := by simp [shiftH]
                    rw [e0] at hcr
                    exact hcr
      | code c =>
        cases hk with
        | code cc _ _ _ _ _ κ hcode hk =>
        show cc.wpIn (Wd rd) 0 P κ a w
        cases cc <;> simp only [vcode, reduceCtorEq] at hcode <;> try (cases hcode; exact h.elim)
        case skip => cases hcode; exact wpIn_skip (ihn _ _ h sv _ _ κ a w hk hR)
        case region id ops draw =>
          cases draw with
          | true =>
            simp only [if_true] at hcode
            unfold drawC at hcode
            cases hd : drawOf P ops with
            | none =>
              rw [hd] at hcode
              simp only at hcode
              cases hdt : drawTOf P ops with
              | none => rw [hdt] at hcode; cases hcode; exact h.elim
              | some r =>
                obtain ⟨al, t⟩ := r
                rw [hdt] at hcode
                cases hcode
                exact drawT_sound hE hE.mix hdt (dtr_run t n h) hR fun s' a' w' ⟨m, hm, hrun⟩ hR' => ih m (by omega) _ _ hrun sv _ _ κ a' w' hk hR'
            | some r =>
            obtain ⟨al, dl⟩ := r
            rw [hd] at hcode
            cases hcode
            exact draw_sound hE hE.mix hd (dops_run dl n h) hR fun s' a' w' ⟨m, hm, hrun⟩ hR' => ih m (by omega) _ _ hrun sv _ _ κ a' w' hk hR'
          | false =>
            simp only [Bool.false_eq_true, if_false] at hcode
            cases hl : vopsOf P ops ops.toList with
            | none => rw [hl] at hcode; cases hcode; exact h.elim
            | some l =>
            rw [hl] at hcode
            cases hcode
            exact wpIn_region_list (ihn _ _ h sv _ _ _ a w (.ops ops ops.toList l K sv ks rd κ hl hk) hR)
        case seq x y =>
          obtain ⟨vx, hx, hcode⟩ := Option.bind_eq_some_iff.1 hcode
          obtain ⟨vy, hy, rfl⟩ := Option.map_eq_some_iff.1 hcode
          exact wpIn_seq (ihn _ _ h sv _ _ _ a w (.code x vx _ sv ks rd _ hx (.code y vy K sv ks rd κ hy hk)) hR)
        case cond cnd x y =>
          obtain ⟨z, hz, hcode⟩ := Option.bind_eq_some_iff.1 hcode
          obtain ⟨vx, hx, hcode⟩ := Option.bind_eq_some_iff.1 hcode
          obtain ⟨vy, hy, rfl⟩ := Option.map_eq_some_iff.1 hcode
          rw [r_cond] at h
          obtain ⟨bs, hf, hsv, hH, hb, hoth⟩ := id hR
          have hrep := X_of (w := w) hf hz
          generalize s.x z = v at h hrep
          cases v <;> try exact h.elim
          rename_i b
          have hb1 := hrep.bool_inv
          obtain ⟨ht, hfl⟩ := h
          refine wpIn_cond_split hb1 (fun hb => ihn _ _ (ht hb) sv _ _ _ a w (.code x vx K sv ks rd κ hx hk) hR) (fun hb => ihn _ _ (hfl hb) sv _ _ _ a w (.code y vy K sv ks rd κ hy hk) hR)
        case block id c =>
          obtain ⟨vc, hc, rfl⟩ := Option.map_eq_some_iff.1 hcode
          exact wpIn_block (ihn _ _ h sv _ _ _ a w (.code c vc _ sv ks rd _ hc (.inBlock id K sv ks rd κ hk)) hR)
        case loop c =>
          obtain ⟨vc, hc, rfl⟩ := Option.map_eq_some_iff.1 hcode
          obtain ⟨σ, head, inv, μ, lf, hlf, ⟨x0, hx0, hle0⟩, hround⟩ := h
          refine wpIn_loop_ghost (fun k a w => ∃ x, μ x = k ∧ inv x ∧ Rl ⟨w0, ks⟩ (head x) a sv w) (μ x0) ⟨x0, rfl, hx0, leF_ok (hlf _ _ hle0) hR⟩ ?_
          rintro k a w ⟨x, rfl, hx, hRx⟩
          exact ihn _ _ (hround x hx) sv _ _ _ a w (.code c vc _ sv ks rd _ hc (.inLoop _ _ K sv ks rd κ (by
            rintro s' a' w' ⟨y, hy, hlt, hle⟩ hR'
            exact ⟨μ y, hlt, y, rfl, hy, leF_ok (hlf _ _ hle) hR'⟩) hk)) hRx
        case exit id =>
          cases hcode
          rw [r_exit] at h
          cases hp : popTo id K with
          | no => rw [hp] at h; exact h.elim
          | go K' =>
            rw [hp] at h
            obtain ⟨κ', h1, h2⟩ := popTo_ok hp hk
            exact wpIn_exit (h2 _ _ (ihn _ _ h sv _ _ κ' a w h1 hR))
          | jump d K' =>
            rw [hp] at h
            exact wpIn_exit (hjump h (popTo_jump hp hk))
        case ret =>
          cases hcode
          rw [r_ret] at h
          cases hp : popRet K with
          | no => rw [hp] at h; exact h.elim
          | go K' =>
            rw [hp] at h
            obtain ⟨κ', h1, h2⟩ := popRet_ok hp hk
            exact wpIn_ret (h2 _ _ (ihn _ _ h sv _ _ κ' a w h1 hR))
          | jump d K' =>
            rw [hp] at h
            exact wpIn_ret (hjump h (popRet_jump hp hk))
        case rangeFunc g ps ca cb =>
          obtain ⟨z, hz, hcode⟩ := Option.bind_eq_some_iff.1 hcode
          obtain ⟨va, hva, hcode⟩ := Option.bind_eq_some_iff.1 hcode
          obtain ⟨vb, hvb, rfl⟩ := Option.map_eq_some_iff.1 hcode
          rw [r_range] at h
          obtain ⟨bs, hf, hsv, hH, hb, hoth⟩ := id hR
          have hrep := X_of (w := w) hf hz
          generalize s.x z = v at h hrep
          unfold rangeK at h
          split at h
          · rename_i gf us cs
            unfold rangeE at h
            cases hfn : E.fn gf with
            | none => rw [hfn] at h; exact h.elim
            | some vf =>
              rw [hfn] at h
              obtain ⟨hnr, h⟩ := h
              have hrd := notRound_ok hnr hk
              subst hrd
              obtain ⟨fn, hfs, hvf, hen⟩ := hE.fn gf vf hfn
              obtain ⟨c, hbody, hcode, hres', hnt⟩ := vfunc_inv hvf
              obtain ⟨uv, cv, hgv, g1, g2⟩ := hrep.fn_inv
              refine wpIn_rangeFunc fun fr _ => ?_
              have hB : w0.heap.size ≤ w.heap.size := hb.size
              obtain ⟨q, hq⟩ : ∃ q : Rec, q = { fn := fr, ps := ps.toList, ca := ca, cb := cb, D := w.heap.size, tmps := a.tmps } := ⟨_, rfl⟩
              obtain ⟨W1, hW1⟩ : ∃ W1, W1 = (w.alloc (.deferred (some []))).alloc (.loop (q.at .ready none)) := ⟨_, rfl⟩
              have hent : (Instr.enterLoop fr a.tmps ps ca cb (Wd none).round).run P w = .ok (w.heap.size + 1, [mark w.heap.size]) W1 := by
                rw [hW1, hq]
                exact run_enterLoop_outer _ _ _ _ _
              refine ⟨w.heap.size + 1, [mark w.heap.size], W1, { target := .fn (.func gf) cv.toArray, args := uv.toArray ++ #[.func (.yield (w.heap.size + 1)) #[] #[]] }, W1, gf, (uv ++ (.func (.yield (w.heap.size + 1)) #[] #[] :: cv)).toArray, W1,
                hent, ?_, fun _ _ => trivial, ?_, fun h => (by cases h), ?_⟩
              · simp only [resolve, hgv, Deferred.ofValue, Sem.run_bind, Sem.run_pure, Result.andThen_ok]
                simp [Act.eval]
              · simp only [invoke, run_callFunc hen]
                simp
              · refine in_frame (b := vf.body) hfs hbody ?_
                refine ihn _ _ (h (w.heap.size + 1)) ({ a with defers := [mark w.heap.size] ++ a.defers } :: sv) _ _ _ { tmps := _, defers := [] } _ (.code c vf.body _ _ _ _ _ hcode (.rfrm vf.res _ q (q.at .ready none) va vb none fn _ _ _ _ _ _ hres' ps.toList (by rw [hq]) (by rw [hq]) (by rw [hq]; exact hva) (by rw [hq]; exact hvb) .none hk)) ?_
                rw [hW1]
                refine rl_enter hf hsv hH hb hoth ?_
                have hy : Rep w bs w0.bd (.fn (.yield (w.heap.size + 1)) [] []) (.func (.yield (w.heap.size + 1)) #[] #[]) := .x _ _ (.fn _ [] [] [] [] .nil .nil)
                have := padL_ok (n := fn.ntmps) (g1.append (.cons _ _ _ _ hy g2))
                rw [hnt]
                simpa using this
          · exact h.elim
  exact fun n => main n n (Nat.le_refl _)

end
end Go.Vx

/- How a contract is proved with the executor. -/
/- How a contract is proved with the executor. -/
set_option linter.all false
namespace Go.Vx
open Go.RowKit
section
variable {P : Program} {E : Env}

/-- A result answers what a contract says, nothing of the call's own memory left to be written. -/
def answers (al : Bool) (k : SV → List HO → Prop) (r : SV) (hp : List HO) : Prop :=
  ∃ r', k r' [] ∧ le 0 0 (expo hp r) r' ∧ (al = false → freshS r')

theorem cut_nil : Cut [] [] 0 0 := ⟨rfl, rfl, fun _ _ h => absurd h (Nat.not_lt_zero _), fun _ _ h => absurd h (Nat.not_lt_zero _)⟩

theorem hp_nil {w : World} {B : Bd} : Hp w [] B [] := ⟨rfl, fun i => .inr (by simp), fun _ _ _ _ _ _ _ h => by simp at h, fun _ _ _ _ h => by simp at h⟩

theorem XRepL.up {w : World} {bs : List BK} {B : Bd} {l : List SV} {vs : List Value} (h : XRepL w bs B l vs) : RepL w bs B l vs := h.rep

/-- A CONTRACT OUT OF A RUN. 'args': what the contract is asked at; the run begins with arguments that these cover. -/
theorem contract {f : FuncId} {fn : Func} {vf : VF} (hf : P.funcs[f]? = some fn) (hvf : vfunc P fn = some vf) (hE : EnvOk P E) (n : Nat) (c : Ctr)
    (h : ∀ (args : List SV) (k : SV → List HO → Prop), CSat (c.of args) k → ∃ args', leL 0 0 args args' ∧ run E (answers c.alias k) vf.res n [.code vf.body] { fr := padL vf.ntmps args', saved := [], hp := [] }) : c.ok P f := by
  intro args vs w F up k hx hc
  obtain ⟨args', hle, hrun⟩ := h args k hc
  have hx2 : RepL w [] (.at w F up) args' vs := leL_ok cut_nil _ _ hle hx.rep
  obtain ⟨body, hbody, hcode, hres, hnt⟩ := vfunc_inv hvf
  refine calls_of_wd (n := 0) (in_frame (b := vf.body) hf hbody ?_)
  refine run_sound (w0 := ⟨w, F, up⟩) (fn0 := fn) (R0 := fun e w' => ∃ r hs v bs, k r hs ∧ e = .returned v ∧ Rep w' bs (.at w F up) r v ∧ Hp w' bs (.at w F up) hs ∧ Below w.heap.size w w' ∧ (c.alias = false → freshS r ∧ freshH hs)) hE hres (by
    rintro r hp v w' bs ⟨r', hk, hle, hfr⟩ hr hH hb
    refine ⟨r', [], v, [], hk, rfl, le_ok cut_nil _ _ hle (.x _ _ (expo_ok hH hr)), hp_nil, hb, fun ha => ⟨hfr ha, trivial⟩⟩) n _ _ hrun [] [] none _
    { tmps := vs.toArray ++ Array.replicate (fn.ntmps - vs.toArray.size) undef, defers := [] } w (.code body vf.body [] [] [] none _ hcode .nil) ?_
  refine ⟨[], ?_, .nil, hp_nil, Below.refl _ _, ⟨fun _ h => (by cases h), .nil, [[]], rfl, by simp, fun _ h => (by simp at h)⟩⟩
  have := padL_ok (n := fn.ntmps) hx2
  rw [hnt]
  simpa [Cx0.bd, Bd.at] using this

/-! ### Loops -/

def wrOps : List VOp → List Nat
  | [] => []
  | ⟨some d, _, _, _⟩ :: l => d :: wrOps l
  | ⟨none, _, _, _⟩ :: l => wrOps l

def wrAl : List (Nat × AL) → List Nat
  | [] => []
  | (d, _) :: l => d :: wrAl l

def wrDops : List DOp → List Nat
  | [] => []
  | ⟨⟨some d, _, _, _⟩, _⟩ :: l => d :: wrDops l
  | ⟨⟨none, _, _, _⟩, _⟩ :: l => wrDops l

def wrDtr : DTr → List Nat
  | .leaf => []
  | .ops l t => wrDops l ++ wrDtr t
  | .br a b => wrDtr a ++ wrDtr b

/-- The slots that a piece of code writes. -/
def wrC : VC → List Nat
  | .region l => wrOps l
  | .draw al l => wrAl al ++ wrDops l
  | .drawT al t => wrAl al ++ wrDtr t
  | .seq a b => wrC a ++ wrC b
  | .cond _ a b => wrC a ++ wrC b
  | .block _ c => wrC c
  | .loop c => wrC c
  | _ => []

def junkAt : List SV → List Nat → List SV
  | fr, [] => fr
  | fr, n :: l => junkAt (setL fr n .junk) l

def putAll : List SV → List (Nat × SV) → List SV
  | fr, [] => fr
  | fr, (n, v) :: l => putAll (setL fr n v) l

def putHs : List HO → List (Nat × HO) → List HO
  | hp, [] => hp
  | hp, (n, v) :: l => putHs (setH hp n v) l

/-- The state at a loop's head: what the loop writes is told by 'slots' and 'blocks', or is anything. -/
def headOf (s : S) (body : VC) (ghosts : List HO) (slots : List (Nat × SV)) (blocks : List (Nat × HO)) : S :=
  { fr := putAll (junkAt s.fr (wrC body)) slots, saved := s.saved, hp := putHs (s.hp ++ ghosts) blocks }

theorem Loop.at {r : List It → S → Prop} {body : VC} {K : List It} {s : S} (σ : Type) (slots : σ → List (Nat × SV)) (blocks : σ → List (Nat × HO)) (ghosts : List HO) (inv : σ → Prop) (μ : σ → Nat)
    (h0 : ∃ x, inv x ∧ leS s (headOf s body ghosts (slots x) (blocks x)))
    (h : ∀ x, inv x → r (.code body :: .inLoop (fun s' => ∃ y, inv y ∧ μ y < μ x ∧ leS s' (headOf s body ghosts (slots y) (blocks y))) :: K) (headOf s body ghosts (slots x) (blocks x))) : Loop r body K s leF :=
  ⟨σ, fun x => headOf s body ghosts (slots x) (blocks x), inv, μ, leS, fun _ _ h => ⟨[], trivial, h⟩, h0, h⟩

/-- The slots that are kept, told by the gaps between them; the others may be anything. -/
def keepG : List Nat → List SV → List SV
  | [], l => junks l
  | _, [] => []
  | 0 :: ks, x :: l => x :: keepG ks l
  | (k + 1) :: ks, _ :: l => .junk :: keepG (k :: ks) l

def headK (s : S) (keep : List Nat) (ghosts : List HO) (slots : List (Nat × SV)) (blocks : List (Nat × HO)) : S :=
  { fr := putAll (keepG keep s.fr) slots, saved := s.saved, hp := putHs (s.hp ++ ghosts) blocks }

theorem Loop.keep {r : List It → S → Prop} {body : VC} {K : List It} {s : S} (keep : List Nat) (σ : Type) (slots : σ → List (Nat × SV)) (blocks : σ → List (Nat × HO)) (ghosts : List HO) (inv : σ → Prop) (μ : σ → Nat)
    (h0 : ∃ x, inv x ∧ leS s (headK s keep ghosts (slots x) (blocks x)))
    (h : ∀ x, inv x → r (.code body :: .inLoop (fun s' => ∃ y, inv y ∧ μ y < μ x ∧ leS s' (headK s keep ghosts (slots y) (blocks y))) :: K) (headK s keep ghosts (slots x) (blocks x))) : Loop r body K s leF :=
  ⟨σ, fun x => headK s keep ghosts (slots x) (blocks x), inv, μ, leS, fun _ _ h => ⟨[], trivial, h⟩, h0, h⟩

end
end Go.Vx

/- The last steps: what 'answers' and 'leS' say, form by form. -/
/- The last steps: what 'answers' and 'leS' say, form by form. -/
set_option linter.all false
namespace Go.Vx
variable {al : Bool} {k : SV → List HO → Prop} {hp : List HO} {m n : Nat}

theorem ans_int {κ : IntKind} {x : Int} (h : k (.int κ x) []) : answers al k (.int κ x) hp := ⟨_, h, by simp [expo, view, le], fun _ => by simp [freshS]⟩
theorem ans_bool {b : Bool} (h : k (.bool b) []) : answers al k (.bool b) hp := ⟨_, h, by simp [expo, view, le], fun _ => by simp [freshS]⟩
theorem ans_le {x r' : SV} (h : k r' []) (hl : le 0 0 (expo hp x) r') (hf : al = false → freshS r') : answers al k x hp := ⟨_, h, hl, hf⟩

theorem le_junk {x : SV} : le m n x .junk = True := by cases x <;> simp [le]
theorem le_int {κ κ' : IntKind} {x y : Int} : le m n (.int κ x) (.int κ' y) = (κ = κ' ∧ x = y) := by simp [le]
theorem le_bool {x y : Bool} : le m n (.bool x) (.bool y) = (x = y) := by simp [le]
theorem le_nil : le m n .nil .nil = True := by simp [le, bnd]
theorem le_agg {a b : List SV} : le m n (.agg a) (.agg b) = leL m n a b := by simp [le]
theorem le_tup {a b : List SV} : le m n (.tup a) (.tup b) = leL m n a b := by simp [le]
theorem le_vs {t t' z z' : Bool} {l l' sz sz' : Nat} {g g' : Nat → List SV} : le m n (.vs t z l sz g) (.vs t' z' l' sz' g') = ((t' = true → t = true) ∧ z = z' ∧ l = l' ∧ sz = sz' ∧ ∀ k, k < l → leXL (g k) (g' k)) := by simp [le]
theorem le_ptr {i o i' o' : Nat} : le m n (.ptr i o) (.ptr i' o') = (i = i' ∧ o = o' ∧ i' < n) := by simp [le, bnd, and_assoc]
theorem le_own {i lo l sz i' lo' l' sz' : Nat} : le m n (.own i lo l sz) (.own i' lo' l' sz') = (i = i' ∧ lo = lo' ∧ l = l' ∧ sz = sz' ∧ i < n) := by simp [le]
theorem le_xp {t t' : Bool} {c c' : List SV} : le m n (.xp t c) (.xp t' c') = ((t' = true → t = true) ∧ leXL c c') := by simp [le]
theorem le_fn {f f' : Fn} {a b a' b' : List SV} : le m n (.fn f a b) (.fn f' a' b') = (f = f' ∧ a = a' ∧ b = b' ∧ bndL n a' ∧ bndL n b') := by simp [le, bnd, and_assoc]
theorem le_opt {b b' : Bool} {x y : SV} : le m n (.opt b x) (.opt b' y) = (b = b' ∧ x = y ∧ bnd n y) := by simp [le, bnd, and_assoc]
theorem le_val {x y : Value} : le m n (.val x) (.val y) = (x = y) := by simp [le, bnd]
theorem le_elem {i k o sz i' k' o' sz' : Nat} : le m n (.elem i k o sz) (.elem i' k' o' sz') = (i = i' ∧ k = k' ∧ o = o' ∧ sz = sz' ∧ i' < n) := by simp [le, bnd, and_assoc]
theorem leXL_id {x : List SV} : leXL x x = True := eq_true (leXL_self x)
theorem le_nil_own {i lo l sz : Nat} : le m n .nil (.own i lo l sz) = (m ≤ i ∧ i < n ∧ lo = 0 ∧ l = 0) := by simp [le]
theorem le_nil_vs {t z : Bool} {l sz : Nat} {g : Nat → List SV} : le m n .nil (.vs t z l sz g) = (z = true ∧ l = 0) := by simp [le]
theorem leH_ghost {z : Bool} {sz l : Nat} {g : Nat → List SV} {r : List HO} : leH m n [] (.own z sz l g :: r) = (z = true ∧ l = 0 ∧ leH m n [] r) := rfl
theorem lenH_nil : lenH [] = 0 := rfl
theorem lenH_cons {x : HO} {a : List HO} : lenH (x :: a) = lenH a + 1 := rfl
theorem leL_nil : leL m n [] [] = True := by simp [leL]
theorem leL_cons {x y : SV} {a b : List SV} : leL m n (x :: a) (y :: b) = (le m n x y ∧ leL m n a b) := by simp [leL]
theorem leLL_nil : leLL m n [] [] = True := by simp [leLL]
theorem leLL_cons {x y : List SV} {a b : List (List SV)} : leLL m n (x :: a) (y :: b) = (leL m n x y ∧ leLL m n a b) := by simp [leLL]
theorem leH_nil {h : List HO} : leH m n h [] = True := by cases h <;> simp [leH]
theorem leH1_box {a b : List SV} : leH1 m n (.box a) (.box b) = leL m n a b := by simp [leH1]
theorem leH1_gone : leH1 m n .gone .gone = True := by simp [leH1]
theorem leH1_own {z z' : Bool} {sz sz' l l' : Nat} {g g' : Nat → List SV} : leH1 m n (.own z sz l g) (.own z' sz' l' g') = (z = z' ∧ sz = sz' ∧ l = l' ∧ ∀ k, k < l → leL m n (g k) (g' k)) := by simp [leH1]
theorem leS_mk {fr fr' : List SV} {sv sv' : List (List SV)} {h h' : List HO} : leS ⟨fr, sv, h⟩ ⟨fr', sv', h'⟩ = (leL (lenH h) (lenH h') fr fr' ∧ leLL (lenH h) (lenH h') sv sv' ∧ leH (lenH h) (lenH h') h h') := rfl
theorem bnd_int {k : IntKind} {x : Int} : bnd n (.int k x) = True := rfl
theorem bnd_bool {b : Bool} : bnd n (.bool b) = True := rfl
theorem bnd_val {v : Value} : bnd n (.val v) = True := rfl
theorem bnd_nil : bnd n .nil = True := rfl
theorem bnd_junk : bnd n .junk = True := rfl
theorem bnd_vs {t z : Bool} {l sz : Nat} {g : Nat → List SV} : bnd n (.vs t z l sz g) = True := rfl
theorem bnd_xp {t : Bool} {c : List SV} : bnd n (.xp t c) = True := rfl
theorem bnd_agg {c : List SV} : bnd n (.agg c) = bndL n c := rfl
theorem bnd_tup {c : List SV} : bnd n (.tup c) = bndL n c := rfl
theorem bnd_ptr {i o : Nat} : bnd n (.ptr i o) = (i < n) := rfl
theorem bnd_own {i a b c : Nat} : bnd n (.own i a b c) = (i < n) := rfl
theorem bnd_elem {i a b c : Nat} : bnd n (.elem i a b c) = (i < n) := rfl
theorem bnd_fn {f : Fn} {a b : List SV} : bnd n (.fn f a b) = (bndL n a ∧ bndL n b) := rfl
theorem bnd_iface {t : TypeId} {v : SV} : bnd n (.iface t v) = bnd n v := rfl
theorem bnd_opt {b : Bool} {v : SV} : bnd n (.opt b v) = bnd n v := rfl
theorem bndL_nil : bndL n [] = True := rfl
theorem bndL_cons {x : SV} {l : List SV} : bndL n (x :: l) = (bnd n x ∧ bndL n l) := rfl

mutual
theorem le_self : ∀ (x : SV), bnd n x → le m n x x
  | .int _ _, _ => ⟨rfl, rfl⟩
  | .bool _, _ => rfl
  | .val _, h => ⟨rfl, h⟩
  | .nil, h => ⟨rfl, h⟩
  | .agg cs, h => leL_self cs h
  | .tup cs, h => leL_self cs h
  | .vs _ _ _ _ get, _ => ⟨id, rfl, rfl, rfl, fun k _ => leXL_self (get k)⟩
  | .xp _ cs, _ => ⟨id, leXL_self cs⟩
  | .ptr _ _, h => ⟨rfl, h⟩
  | .own _ _ _ _, h => ⟨rfl, rfl, rfl, rfl, h⟩
  | .elem _ _ _ _, h => ⟨rfl, h⟩
  | .fn _ _ _, h => ⟨rfl, h⟩
  | .iface _ _, h => ⟨rfl, h⟩
  | .opt _ _, h => ⟨rfl, h⟩
  | .junk, _ => trivial
theorem leL_self : ∀ (x : List SV), bndL n x → leL m n x x
  | [], _ => trivial
  | x :: l, h => ⟨le_self x h.1, leL_self l h.2⟩
end

mutual
/-- What was read covers. -/
theorem leX_le : ∀ (x y : SV), leX x y → bnd n y → le m n x y
  | .agg cs, y, h, hb => by
    cases y with
    | agg ds => exact leXL_le cs ds h hb
    | junk => trivial
    | _ => cases h
  | .tup cs, y, h, hb => by
    cases y with
    | tup ds => exact leXL_le cs ds h hb
    | junk => trivial
    | _ => cases h
  | .int _ _, y, h, hb => by cases y <;> first | trivial | exact h | cases h
  | .bool _, y, h, hb => by cases y <;> first | trivial | exact h | cases h
  | .val _, y, h, hb => by cases y <;> first | trivial | (cases h; done) | (cases h; exact ⟨rfl, hb⟩)
  | .nil, y, h, hb => by cases y <;> first | trivial | exact h | (cases h; done) | (cases h; exact ⟨rfl, hb⟩)
  | .vs _ _ _ _ _, y, h, hb => by cases y <;> first | trivial | exact h | cases h
  | .xp _ _, y, h, hb => by cases y <;> first | trivial | exact h | cases h
  | .ptr _ _, y, h, hb => by cases y <;> first | trivial | (cases h; done) | (cases h; exact ⟨rfl, hb⟩)
  | .own _ _ _ _, y, h, hb => by cases y <;> first | trivial | (cases h; done) | (cases h; exact ⟨rfl, rfl, rfl, rfl, hb⟩)
  | .elem _ _ _ _, y, h, hb => by cases y <;> first | trivial | (cases h; done) | (cases h; exact ⟨rfl, hb⟩)
  | .fn _ _ _, y, h, hb => by cases y <;> first | trivial | (cases h; done) | (cases h; exact ⟨rfl, hb⟩)
  | .iface _ _, y, h, hb => by cases y <;> first | trivial | (cases h; done) | (cases h; exact ⟨rfl, hb⟩)
  | .opt _ _, y, h, hb => by cases y <;> first | trivial | (cases h; done) | (cases h; exact ⟨rfl, hb⟩)
  | .junk, y, h, hb => by cases y <;> first | trivial | (cases h; done)
theorem leXL_le : ∀ (x y : List SV), leXL x y → bndL n y → leL m n x y
  | [], y, h, hb => by
    cases y with
    | nil => trivial
    | cons _ _ => exact h.elim
  | x :: l, y, h, hb => by
    cases y with
    | nil => exact h.elim
    | cons a r => exact ⟨leX_le x a h.1 hb.1, leXL_le l r h.2 hb.2⟩
end

theorem bndL_take : ∀ (k : Nat) (l : List SV), bndL n l → bndL n (takeL k l)
  | 0, _, _ => trivial
  | _ + 1, [], _ => trivial
  | k + 1, _ :: l, h => ⟨h.1, bndL_take k l h.2⟩
theorem bndL_drop : ∀ (k : Nat) (l : List SV), bndL n l → bndL n (dropL k l)
  | 0, _, h => h
  | _ + 1, [], _ => trivial
  | k + 1, _ :: l, h => bndL_drop k l h.2

/-- Elements of a slice literal. -/
theorem leL_chunk {sz k : Nat} {cs : List SV} (h : bndL n cs = True) : leL m n (chunk sz cs k) (chunk sz cs k) = True :=
  eq_true (leL_self _ (bndL_take _ _ (bndL_drop _ _ (of_eq_true h))))

theorem subLo_z (n : Nat) : subLo n 0 = n := rfl
theorem addLo_z (k : Nat) : addLo 0 k = k := rfl
theorem subLo_one (n : Nat) : subLo n (Int.toNat 1) = n - 1 := rfl
theorem addLo_one (k : Nat) : addLo (Int.toNat 1) k = 1 + k := rfl
end Go.Vx

/- Data that came in, as the executor's values: by shapes of types. -/
/- Data that came in, as the executor's values: by shapes of types. -/
set_option linter.all false
namespace Go.Vx
open Go.RowKit Go.WideShapes Go.ChangeShapes

/-- The shape of one cell. -/
inductive Sh where
  | int (k : IntKind)
  | bool
  | str
  | slice (l : List Sh)

def lenSh : List Sh → Nat
  | [] => 0
  | _ :: l => lenSh l + 1

mutual
/-- A value of a shape: nothing of new memory is told. -/
def okS : Sh → SV → Prop
  | .int k, v => ∃ n, v = .int k n ∧ (Lit.int k n).wf = true
  | .bool, v => ∃ b, v = .bool b
  | .str, v => ∃ s : ByteArray, v = .val (.string s) ∧ s.size ≤ maxLen
  | .slice l, v => ∃ z n get, v = .vs false z n (lenSh l) get ∧ n ≤ maxLen ∧ ∀ k, k < n → okSL l (get k)
def okSL : List Sh → List SV → Prop
  | [], [] => True
  | s :: l, v :: r => okS s v ∧ okSL l r
  | _, _ => False
end

def flatFields (P : Program) (fl : TypeId → Option (List Sh)) : Nat → List Field → Option (List Sh)
  | _, [] => some []
  | off, f :: fs => bif Nat.beq f.offset off then (fl f.type).bind fun l => bif Nat.beq (lenSh l) (P.cellsOf f.type) then (flatFields P fl (off + P.cellsOf f.type) fs).map (l ++ ·) else none else none

def repSh : Nat → List Sh → List Sh
  | 0, _ => []
  | n + 1, l => l ++ repSh n l

def flat (P : Program) : Nat → TypeId → Option (List Sh)
  | 0, _ => none
  | n + 1, t => match P.underlying t with
    | some (.int k) => some [.int k]
    | some .bool => some [.bool]
    | some .string => some [.str]
    | some (.slice e) => (flat P n e).bind fun l => bif Nat.beq (lenSh l) (P.cellsOf e) then (bif Nat.ble 1 (lenSh l) then some [.slice l] else none) else none
    | some (.struct fs) => (flatFields P (flat P n) 0 fs.toList).bind fun l => bif Nat.beq (lenSh l) (P.cellsOf t) then some l else none
    | some (.array m e) => (flat P n e).bind fun l => bif Nat.beq (lenSh l) (P.cellsOf e) then (bif Nat.beq (m * P.cellsOf e) (P.cellsOf t) then some (repSh m l) else none) else none
    | _ => none

theorem lenSh_app : ∀ (a b : List Sh), lenSh (a ++ b) = lenSh a + lenSh b
  | [], b => by simp [lenSh]
  | _ :: a, b => by simp [lenSh, lenSh_app a b]; omega

theorem okSL_app : ∀ {a b : List Sh} {x y : List SV}, okSL a x → okSL b y → okSL (a ++ b) (x ++ y)
  | [], _, [], _, _, h => h
  | [], _, _ :: _, _, h, _ => h.elim
  | _ :: _, _, [], _, h, _ => h.elim
  | _ :: _, _, _ :: _, _, h, h' => ⟨h.1, okSL_app h.2 h'⟩

/-- All blocks may be read. -/
def bd0 (n : Nat) : Bd := ⟨n, fun _ => True, fun _ _ => trivial⟩

section
variable {H : Type} {enc : TypeId × Value → H} {P : Program} {w : World} {B : Nat} {base : Nat} {spare : Nat → Bool} {held : Bool}

theorem XRepL.append : ∀ {l r : List SV} {vs us : List Value}, XRepL w [] (bd0 B) l vs → XRepL w [] (bd0 B) r us → XRepL w [] (bd0 B) (l ++ r) (vs ++ us)
  | _, _, _, _, .nil, h => h
  | _, _, _, _, .cons x v l vs h h', hr => .cons _ _ _ _ h (XRepL.append h' hr)

theorem flatFields_rep {fl : TypeId → Option (List Sh)} {fuel : Nat} {cs : List Value}
    (ih : ∀ (t : TypeId) (cs : List Value) (x : DataW H × List MemPlace) (l : List Sh), fl t = some l → DataW.trod enc P w base spare held fuel t cs = some x → ∃ svs, XRepL w [] (bd0 B) svs cs ∧ okSL l svs) :
    ∀ (fs : List Field) (off : Nat) (l : List Sh), flatFields P fl off fs = some l → (∀ f ∈ fs, ∃ x, DataW.trod enc P w base spare held fuel f.type ((cs.drop f.offset).take (P.cellsOf f.type)) = some x) → off + lenSh l = cs.length →
      ∃ svs, XRepL w [] (bd0 B) svs (cs.drop off) ∧ okSL l svs
  | [], off, l, h, _, hl => by
    simp only [flatFields, Option.some.injEq] at h
    subst h
    simp only [lenSh, Nat.add_zero] at hl
    refine ⟨[], ?_, trivial⟩
    rw [List.drop_of_length_le (by omega)]; exact .nil
  | f :: fs, off, l, h, hall, hl => by
    unfold flatFields at h
    cases hb : Nat.beq f.offset off with
    | false => rw [hb] at h; cases h
    | true =>
      rw [hb] at h
      have ho := Nat.eq_of_beq_eq_true hb
      obtain ⟨l1, h1, h⟩ := Option.bind_eq_some_iff.1 h
      cases hb2 : Nat.beq (lenSh l1) (P.cellsOf f.type) with
      | false => rw [hb2] at h; cases h
      | true =>
        rw [hb2] at h
        have hsz := Nat.eq_of_beq_eq_true hb2
        obtain ⟨l2, h2, rfl⟩ := Option.map_eq_some_iff.1 h
        obtain ⟨x, hx⟩ := hall f List.mem_cons_self
        obtain ⟨s1, r1, o1⟩ := ih _ _ _ _ h1 hx
        obtain ⟨s2, r2, o2⟩ := flatFields_rep ih fs _ _ h2 (fun g hg => hall g (List.mem_cons_of_mem _ hg)) (by rw [lenSh_app] at hl; omega)
        refine ⟨s1 ++ s2, ?_, okSL_app o1 o2⟩
        have := r1.append r2
        rw [ho] at this
        have e : (cs.drop off).take (P.cellsOf f.type) ++ cs.drop (off + P.cellsOf f.type) = cs.drop off := by
          rw [← List.drop_drop]; exact List.take_append_drop _ _
        rwa [e] at this

theorem flatArr_rep {fuel : Nat} {cs : List Value} {e : TypeId} {l : List Sh} (hs : lenSh l = P.cellsOf e)
    (ih : ∀ (cs : List Value) (x : DataW H × List MemPlace), DataW.trod enc P w base spare held fuel e cs = some x → ∃ svs, XRepL w [] (bd0 B) svs cs ∧ okSL l svs) :
    ∀ (k j : Nat), (∀ i, j ≤ i → i < j + k → ∃ x, DataW.trod enc P w base spare held fuel e ((cs.drop (i * P.cellsOf e)).take (P.cellsOf e)) = some x) → j * P.cellsOf e + k * P.cellsOf e = cs.length →
      ∃ svs, XRepL w [] (bd0 B) svs (cs.drop (j * P.cellsOf e)) ∧ okSL (repSh k l) svs
  | 0, j, _, hl => by
    refine ⟨[], ?_, trivial⟩
    rw [List.drop_of_length_le (by omega)]; exact .nil
  | k + 1, j, hall, hl => by
    obtain ⟨x, hx⟩ := hall j (Nat.le_refl _) (by omega)
    obtain ⟨s1, r1, o1⟩ := ih _ _ hx
    obtain ⟨s2, r2, o2⟩ := flatArr_rep hs ih k (j + 1) (fun i h1 h2 => hall i (by omega) (by omega)) (by rw [Nat.succ_mul] at hl ⊢; omega)
    refine ⟨s1 ++ s2, ?_, okSL_app o1 o2⟩
    have := r1.append r2
    have e : (cs.drop (j * P.cellsOf e)).take (P.cellsOf e) ++ cs.drop ((j + 1) * P.cellsOf e) = cs.drop (j * P.cellsOf e) := by
      rw [Nat.succ_mul, ← List.drop_drop]; exact List.take_append_drop _ _
    rwa [e] at this

theorem mapM_some {α β : Type} {g : α → Option β} : ∀ {l : List α} {r : List β}, l.mapM g = some r → ∀ x ∈ l, ∃ y, g x = some y
  | [], _, _, x, hx => by cases hx
  | a :: l, r, h, x, hx => by
    rw [List.mapM_cons] at h
    cases ha : g a with
    | none => rw [ha] at h; cases h
    | some y =>
      rw [ha] at h
      cases hl : l.mapM g with
      | none => rw [hl] at h; cases h
      | some ys =>
        rcases List.mem_cons.1 hx with rfl | hx
        · exact ⟨y, ha⟩
        · exact mapM_some hl x hx

theorem cells_get {a : Addr} {n : Nat} {cs : List Value} (h : w.cells? base a n = some cs) : cs.length = n ∧ ∀ j v, cs[j]? = some v → w.cell? (a.add j) = some v := by
  unfold World.cells? at h
  split at h
  · have key : ∀ (l : List Nat) (r : List Value), l.mapM (fun i => w.cell? (a.add i)) = some r → r.length = l.length ∧ ∀ (j : Nat) (v : Value), r[j]? = some v → ∃ i, l[j]? = some i ∧ w.cell? (a.add i) = some v := by
      intro l
      induction l with
      | nil => intro r h; simp at h; subst h; exact ⟨rfl, fun j v h => by simp at h⟩
      | cons i l ih =>
        intro r h
        rw [List.mapM_cons] at h
        cases hi : w.cell? (a.add i) with
        | none => rw [hi] at h; cases h
        | some v0 =>
          rw [hi] at h
          cases hl : l.mapM (fun i => w.cell? (a.add i)) with
          | none => rw [hl] at h; cases h
          | some r' =>
            rw [hl] at h
            cases h
            obtain ⟨h1, h2⟩ := ih r' hl
            refine ⟨by simp [h1], fun j v hj => ?_⟩
            cases j with
            | zero => simp only [List.getElem?_cons_zero, Option.some.injEq] at hj; subst hj; exact ⟨i, rfl, hi⟩
            | succ j => obtain ⟨i', k1, k2⟩ := h2 j v (by simpa using hj); exact ⟨i', by simpa using k1, k2⟩
    obtain ⟨h1, h2⟩ := key _ _ h
    refine ⟨by simpa using h1, fun j v hj => ?_⟩
    obtain ⟨i, k1, k2⟩ := h2 j v hj
    have : j < n := by
      have := (List.getElem?_eq_some_iff.1 hj).1
      simp at h1; omega
    rw [List.getElem?_range this] at k1
    cases k1; exact k2
  · cases h

theorem cell_block {a : Addr} {v : Value} (h : w.cell? a = some v) : a.spot = none ∧ ∃ cs T fz, w.heap[a.block]? = some (.cells cs T fz) ∧ cs[a.off]? = some v := by
  unfold World.cell? at h
  split at h
  · split at h
    · cases h
    · rename_i hs
      exact ⟨by cases hq : a.spot with | none => rfl | some _ => rw [hq] at hs; simp at hs, _, _, _, ‹_›, h⟩
  · cases h

theorem trod_rep : ∀ (n fuel : Nat) (t : TypeId) (cs : List Value) (x : DataW H × List MemPlace) (l : List Sh), flat P n t = some l → DataW.trod enc P w base spare held fuel t cs = some x → ∃ svs, XRepL w [] (bd0 B) svs cs ∧ okSL l svs := by
  intro n
  induction n with
  | zero => intro fuel t cs x l h; cases h
  | succ n ih =>
    intro fuel t cs x l h hx
    unfold flat at h
    split at h
    · rename_i k hu
      cases h
      obtain ⟨m, rfl, _, hw⟩ := DataW.trod_int hu hx
      exact ⟨[.int k m], .cons _ _ _ _ (.int _ _) .nil, ⟨m, rfl, hw⟩, trivial⟩
    · rename_i hu
      cases h
      obtain ⟨b, rfl, _⟩ := DataW.trod_bool hu hx
      exact ⟨[.bool b], .cons _ _ _ _ (.bool _) .nil, ⟨b, rfl⟩, trivial⟩
    · rename_i hu
      cases h
      obtain ⟨s, rfl, _, hs⟩ := DataW.trod_string hu hx
      exact ⟨[.val (.string s)], .cons _ _ _ _ (.val _) .nil, ⟨s, rfl, hs⟩, trivial⟩
    · rename_i e hu
      obtain ⟨le, he, h⟩ := Option.bind_eq_some_iff.1 h
      cases hb : Nat.beq (lenSh le) (P.cellsOf e) with
      | false => rw [hb] at h; cases h
      | true =>
      rw [hb] at h
      have hsz := Nat.eq_of_beq_eq_true hb
      cases hb1 : Nat.ble 1 (lenSh le) with
      | false => rw [hb1] at h; cases h
      | true =>
      rw [hb1] at h
      have hpos := Nat.le_of_ble_eq_true hb1
      cases h
      rcases Deep.open_slice hu hx with ⟨rfl, _⟩ | ⟨a, len, cap, m, fu, D, Pl, rfl, hba, hlc, hcm, hm, _, hel⟩
      · exact ⟨[.vs false true 0 (lenSh le) fun _ => []], .cons _ _ _ _ (.vs _ _ _ _ _ none 0 (fun _ => []) rfl (Nat.le_refl _) (fun _ => ⟨rfl, rfl⟩) (fun k hk => by omega) (fun k hk => by omega)) .nil,
          ⟨true, 0, _, rfl, Nat.zero_le _, fun k hk => by omega⟩, trivial⟩
      · have hlm : len ≤ m := by rw [hm]; split <;> omega
        have hel' : ∀ k, ∃ vals svs, k < len → w.cells? base (a.add (k * P.cellsOf e)) (P.cellsOf e) = some vals ∧ XRepL w [] (bd0 B) svs vals ∧ okSL le svs := by
          intro k
          by_cases hk : k < len
          · obtain ⟨cs', h1, h2⟩ := hel k (by omega)
            obtain ⟨svs, h3, h4⟩ := ih fu e cs' _ _ he h2
            exact ⟨cs', svs, fun _ => ⟨h1, h3, h4⟩⟩
          · exact ⟨[], [], fun h => absurd h hk⟩
        obtain ⟨vals, hv⟩ := Classical.axiomOfChoice hel'
        obtain ⟨get, hg⟩ := Classical.axiomOfChoice hv
        refine ⟨[.vs false false len (lenSh le) get], .cons _ _ _ _ (.vs _ _ _ _ _ (some a) cap vals rfl hlc (fun h => by cases h) (fun k hk => ?_) (fun k hk => (hg k hk).2.1)) .nil, ⟨false, len, get, rfl, by omega, fun k hk => (hg k hk).2.2⟩, trivial⟩
        have h0 := (hg 0 (by omega)).1
        obtain ⟨l0, c0⟩ := cells_get h0
        have hsp : a.spot = none := by
          cases hv0 : vals 0 with
          | nil => rw [hv0] at l0; simp at l0; omega
          | cons v r =>
            have := (cell_block (c0 0 v (by rw [hv0]; rfl))).1
            simpa [Addr.add] using this
        obtain ⟨lk, ck⟩ := cells_get (hg k hk).1
        refine ⟨a, rfl, hsp, ⟨free_nil, trivial⟩, (fun h => by cases h), by rw [lk, hsz], ?_⟩
        cases hvk : vals k with
        | nil => rw [hvk] at lk; simp at lk; omega
        | cons v r =>
          rw [hvk] at ck
          have e1 : ∀ j, (a.add (k * P.cellsOf e)).add j = ⟨a.block, a.off + k * P.cellsOf e + j, none⟩ := by
            intro j
            obtain ⟨ab, ao, asp⟩ := a
            simp only at hsp
            subst hsp
            unfold Addr.add
            split <;> split <;> simp_all <;> omega
          obtain ⟨_, cs2, T, fz, hb, hc⟩ := cell_block (ck 0 v rfl)
          rw [e1] at hb
          refine ⟨cs2, T, fz, hb, fun j u hj => ?_⟩
          obtain ⟨_, cs3, T3, fz3, hb3, hc3⟩ := cell_block (ck j u hj)
          rw [e1] at hb3 hc3
          simp only at hb hb3 hc3
          rw [hb] at hb3; cases hb3
          rw [hsz]
          exact hc3
    · rename_i fs hu
      obtain ⟨l0, hf, h⟩ := Option.bind_eq_some_iff.1 h
      cases hb : Nat.beq (lenSh l0) (P.cellsOf t) with
      | false => rw [hb] at h; cases h
      | true =>
        rw [hb] at h
        cases h
        have hsz := Nat.eq_of_beq_eq_true hb
        cases fuel with
        | zero => simp [DataW.trod] at hx
        | succ fuel =>
          unfold DataW.trod at hx
          rw [hu] at hx
          simp only at hx
          split at hx
          · rename_i hlen
            obtain ⟨xs, hxs, _⟩ := Option.map_eq_some_iff.1 hx
            have := flatFields_rep (cs := cs) (B := B) (fun t cs x l h h' => ih fuel t cs x l h h') fs.toList 0 l hf (fun f hf => mapM_some hxs f hf) (by omega)
            simpa using this
          · cases hx
    · rename_i m e hu
      obtain ⟨l0, hf, h⟩ := Option.bind_eq_some_iff.1 h
      cases hb : Nat.beq (lenSh l0) (P.cellsOf e) with
      | false => rw [hb] at h; cases h
      | true =>
        rw [hb] at h
        have hsz := Nat.eq_of_beq_eq_true hb
        cases hb2 : Nat.beq (m * P.cellsOf e) (P.cellsOf t) with
        | false => rw [hb2] at h; cases h
        | true =>
          rw [hb2] at h
          cases h
          have hsz2 := Nat.eq_of_beq_eq_true hb2
          cases fuel with
          | zero => simp [DataW.trod] at hx
          | succ fuel =>
            unfold DataW.trod at hx
            rw [hu] at hx
            simp only at hx
            split at hx
            · rename_i hlen
              obtain ⟨xs, hxs, _⟩ := Option.map_eq_some_iff.1 hx
              have := flatArr_rep (cs := cs) (B := B) hsz (fun cs x h' => ih fuel e cs x l0 hf h') m 0 (fun i _ hi => mapM_some hxs i (List.mem_range.2 (by omega))) (by omega)
              simpa using this
            · cases hx
    · cases h

/-! ### Parameters -/

structure PSh where
  agg : Bool
  l : List Sh

def okP (p : PSh) (v : SV) : Prop :=
  match p.agg with
  | true => ∃ cs, v = .agg cs ∧ okSL p.l cs
  | false => okSL p.l [v]

def okPL : List PSh → List SV → Prop
  | [], [] => True
  | p :: l, v :: r => okP p v ∧ okPL l r
  | _, _ => False

def pflat (P : Program) (t : TypeId) : Option PSh :=
  (flat P 16 t).bind fun l => match P.underlying t with
    | some (.struct _) => some ⟨true, l⟩
    | some (.array _ _) => some ⟨true, l⟩
    | some (.int _) | some .bool | some .string | some (.slice _) => some ⟨false, l⟩
    | _ => none

def pflats (P : Program) : List TypeId → Option (List PSh)
  | [] => some []
  | t :: l => (pflat P t).bind fun p => (pflats P l).map (p :: ·)

theorem flat_one {n : Nat} {t : TypeId} {l : List Sh} (h : flat P n t = some l) (hu : (∃ k, P.underlying t = some (.int k)) ∨ P.underlying t = some .bool ∨ P.underlying t = some .string ∨ ∃ e, P.underlying t = some (.slice e)) : ∃ s, l = [s] := by
  cases n with
  | zero => cases h
  | succ n =>
    unfold flat at h
    rcases hu with ⟨k, hu⟩ | hu | hu | ⟨e, hu⟩ <;> rw [hu] at h <;> simp only at h
    · cases h; exact ⟨_, rfl⟩
    · cases h; exact ⟨_, rfl⟩
    · cases h; exact ⟨_, rfl⟩
    · obtain ⟨le, _, h⟩ := Option.bind_eq_some_iff.1 h
      cases hb : Nat.beq (lenSh le) (P.cellsOf e) with
      | false => rw [hb] at h; cases h
      | true =>
        rw [hb] at h
        cases hb1 : Nat.ble 1 (lenSh le) with
        | false => rw [hb1] at h; cases h
        | true => rw [hb1] at h; cases h; exact ⟨_, rfl⟩

theorem param_rep {r : Reach} {b0 : Nat} {t : TypeId} {v : Value} {d : DataW H} {ps : List MemPlace} {p : PSh} (hp : pflat P t = some p) (hval : Value.okWide P w r b0 t v) (hd : DataW.Trod enc P w base spare held t v d ps) : ∃ sv, XRep w [] (bd0 B) sv v ∧ okP p sv := by
  obtain ⟨fuel, hf⟩ := id hd
  unfold pflat at hp
  obtain ⟨l, hl, hp⟩ := Option.bind_eq_some_iff.1 hp
  obtain ⟨svs, h1, h2⟩ := trod_rep (B := B) 16 fuel t _ _ l hl hf
  have one : ∀ (c : Value), v.cells.toList = [c] → v = c → (∃ s, l = [s]) → ∃ sv, XRep w [] (bd0 B) sv v ∧ okP ⟨false, l⟩ sv := by
    rintro c hc rfl ⟨s, rfl⟩
    rw [hc] at h1
    cases h1 with
    | cons sv _ svs' _ k1 k2 =>
      cases k2
      exact ⟨sv, k1, h2⟩
  split at hp
  · rename_i fs hu
    cases hp
    unfold Value.okWide at hval
    rw [hu] at hval
    simp only at hval
    obtain ⟨cs, rfl, _⟩ := hval
    refine ⟨.agg svs, ?_, svs, rfl, h2⟩
    have := XRep.agg (w := w) (bs := []) (B := bd0 B) svs cs.toList h1
    simpa using this
  · rename_i m e hu
    cases hp
    unfold Value.okWide at hval
    rw [hu] at hval
    simp only at hval
    obtain ⟨cs, rfl, _⟩ := hval
    refine ⟨.agg svs, ?_, svs, rfl, h2⟩
    have := XRep.agg (w := w) (bs := []) (B := bd0 B) svs cs.toList h1
    simpa using this
  · rename_i k hu
    cases hp
    obtain ⟨n, rfl⟩ := okWide_int hu hval
    exact one _ rfl rfl (flat_one hl (.inl ⟨_, hu⟩))
  · rename_i hu
    cases hp
    obtain ⟨n, rfl⟩ := okWide_bool hu hval
    exact one _ rfl rfl (flat_one hl (.inr (.inl hu)))
  · rename_i hu
    cases hp
    obtain ⟨n, rfl⟩ := okWide_string hu hval
    exact one _ rfl rfl (flat_one hl (.inr (.inr (.inl hu))))
  · rename_i e hu
    cases hp
    obtain ⟨a, len, cap, rfl⟩ := okWide_slice hu hval
    exact one _ rfl rfl (flat_one hl (.inr (.inr (.inr ⟨_, hu⟩))))
  · cases hp

theorem params_rep {r : Reach} {b0 : Nat} : ∀ {ts : List TypeId} {vs : List Value} {ds : List (DataW H)} {ps : List MemPlace} {shs : List PSh}, pflats P ts = some shs → (∀ (j : Nat) t v, ts[j]? = some t → vs[j]? = some v → Value.okWide P w r b0 t v) →
    DataW.TrodAll enc P w base spare held ts vs ds ps → ∃ svs, XRepL w [] (bd0 B) svs vs ∧ okPL shs svs
  | [], vs, ds, ps, shs, h, _, hd => by
    simp only [pflats, Option.some.injEq] at h
    subst h
    obtain ⟨rfl, _, _⟩ := trodAll_nil hd
    exact ⟨[], .nil, trivial⟩
  | t :: ts, vs, ds, ps, shs, h, hv, hd => by
    unfold pflats at h
    obtain ⟨p, hp, h⟩ := Option.bind_eq_some_iff.1 h
    obtain ⟨shs', hs, rfl⟩ := Option.map_eq_some_iff.1 h
    obtain ⟨v, vs', d, ds', p1, q1, rfl, rfl, rfl, h1, h2⟩ := trodAll_cons hd
    obtain ⟨sv, k1, k2⟩ := param_rep (B := B) hp (hv 0 t v rfl rfl) h1
    obtain ⟨svs, k3, k4⟩ := params_rep hs (fun j t' v' ht hv' => hv (j + 1) t' v' (by simpa using ht) (by simpa using hv')) h2
    exact ⟨sv :: svs, .cons _ _ _ _ k1 k3, k2, k4⟩

end

def readB (P : Program) (ts : List TypeId) : Bool := ts.all fun t => P.readableRec t && Nat.blt t P.types.size

theorem params_again {H : Type} {enc : TypeId × Value → H} {P : Program} (hl : laidOutB P = true) {W W' : World} (hb : Below W.heap.size W W') :
    ∀ {ts : List TypeId} {vs : List Value} {ds : List (DataW H)} {ps : List MemPlace}, readB P ts = true → DataW.TrodAll enc P W 0 (fun _ => true) true ts vs ds ps → DataW.TrodAll enc P W' 0 (fun b => decide (b < W.heap.size)) true ts vs ds ps
  | [], vs, ds, ps, _, h => by
    obtain ⟨rfl, rfl, rfl⟩ := trodAll_nil h
    rfl
  | t :: ts, vs, ds, ps, hr, h => by
    obtain ⟨v, vs', d, ds', p1, q1, rfl, rfl, rfl, h1, h2⟩ := trodAll_cons h
    simp only [readB, List.all_cons, Bool.and_eq_true] at hr
    have hlt : ∀ x ∈ p1, x.block < W.heap.size := by obtain ⟨m, hm⟩ := h1; exact DataW.trod_lt m _ _ _ hm
    refine ⟨_, _, Below.trod hl hr.1.1 ?_ h1 hb hlt, params_again hl hb hr.2 h2, rfl⟩
    have := hr.1.2
    simpa using this

theorem trodAll_len {H : Type} {enc : TypeId × Value → H} {P : Program} {W : World} {base : Nat} {spare : Nat → Bool} {held : Bool} :
    ∀ {ts : List TypeId} {vs : List Value} {ds : List (DataW H)} {ps : List MemPlace}, DataW.TrodAll enc P W base spare held ts vs ds ps → ds.length = ts.length
  | [], vs, ds, ps, h => by obtain ⟨_, rfl, _⟩ := trodAll_nil h; rfl
  | t :: ts, vs, ds, ps, h => by
    obtain ⟨v, vs', d, ds', p1, q1, rfl, rfl, rfl, h1, h2⟩ := trodAll_cons h
    simp [trodAll_len h2]

theorem okSL_cons_inv {s : Sh} {l : List Sh} {c : List SV} (h : okSL (s :: l) c) : ∃ x r, c = x :: r ∧ okS s x ∧ okSL l r := by
  cases c with
  | nil => exact h.elim
  | cons x r => exact ⟨x, r, rfl, h.1, h.2⟩
theorem okSL_nil_inv {c : List SV} (h : okSL [] c) : c = [] := by
  cases c with
  | nil => rfl
  | cons x r => exact h.elim
theorem okPL_cons_inv {p : PSh} {l : List PSh} {c : List SV} (h : okPL (p :: l) c) : ∃ x r, c = x :: r ∧ okP p x ∧ okPL l r := by
  cases c with
  | nil => exact h.elim
  | cons x r => exact ⟨x, r, rfl, h.1, h.2⟩
theorem okPL_nil_inv {c : List SV} (h : okPL [] c) : c = [] := by
  cases c with
  | nil => rfl
  | cons x r => exact h.elim
theorem okP_agg_inv {l : List Sh} {v : SV} (h : okP ⟨true, l⟩ v) : ∃ cs, v = .agg cs ∧ okSL l cs := h
theorem okP_one_inv {s : Sh} {v : SV} (h : okP ⟨false, [s]⟩ v) : okS s v := h.1

/-- A list out of what was read. -/
theorem list_of {α : Type} [Inhabited α] {n : Nat} {P : Nat → α → Prop} (h : ∀ k, k < n → ∃ x, P k x) : ∃ l : List α, l.length = n ∧ ∀ k, k < n → P k (l.getD k default) := by
  induction n with
  | zero => exact ⟨[], rfl, fun k hk => absurd hk (Nat.not_lt_zero _)⟩
  | succ n ih =>
    obtain ⟨l, h1, h2⟩ := ih fun k hk => h k (by omega)
    obtain ⟨x, hx⟩ := h n (by omega)
    refine ⟨l ++ [x], by simp [h1], fun k hk => ?_⟩
    rcases Nat.lt_or_ge k n with h' | h'
    · have := h2 k h'
      rw [List.getD_eq_getElem?_getD] at this ⊢
      rwa [List.getElem?_append_left (by omega)]
    · obtain rfl : k = n := by omega
      rw [List.getD_eq_getElem?_getD, List.getElem?_append_right (by omega), h1, Nat.sub_self]
      exact hx

/-- The contract of a law: whatever comes in, true. -/
def lawC (shs : List PSh) : Ctr := { alias := false, of := fun l => .pre (okPL shs l) (.fin (.bool true) []) }

/-- A LAW'S STATEMENT OUT OF ITS CONTRACT. -/
theorem law_lifted {C : Checked} {f : FuncId} {fn : Func} {s : ChangeSpec} {dom : List PathCond} {os : Os} {H : Type} {enc : TypeId × Value → H} {shs : List PSh} {tb : TypeId}
    (own : ownKnob C.prog.godebug = none) (started : os.Started) (noInit : C.prog.inits.idxOf? f = none) (hfn : C.prog.funcs[f]? = some fn) (hl : laidOutB C.prog = true)
    (witness : ∃ (w : World) (tape : Tape) (i : Input), w.os = os ∧ (w.forCall tape i).Shaped C.prog ∧ i.vars = [] ∧ Input.okWide C.prog (w.forCall tape i) .any w.heap.size f i ∧
      s.pre6 enc C.prog fn dom false (w.forCall tape i).memory i.args ∧ ({} : Assume).holds C.prog (lone (Frame.enter C.prog f i.args .normal) [] (w.forCall tape i)))
    (hsh : pflats C.prog fn.params.toList = some shs) (hread : readB C.prog fn.params.toList = true) (hres : fn.resultTypes.toList = [tb]) (htb : C.prog.underlying tb = some .bool) (hvars : s.vars = [])
    (hspec : ∀ ds : List (DataW H), ds.length = fn.params.toList.length → (s.fn H ds).results = [.lit (.bool true)] ∧ (s.fn H ds).args = ds ∧ (s.fn H ds).vars = []) (hc : (lawC shs).ok C.prog f) :
    ReturnsInHanded {} C os f .any (s.pre6 enc C.prog fn dom false) (s.post enc C.prog fn false true false false) := by
  refine returnsInHanded_of_change own started noInit hfn witness ?_
  intro W base args ds gs before hval hW hcnd _
  obtain ⟨p, q, hA, hV, hbef, hfz, hnd⟩ := id hW
  have hlen := trodAll_len hA
  rw [hvars] at hV
  obtain ⟨rfl, rfl⟩ := trodVars_none hV
  obtain ⟨svs, k1, k2⟩ := params_rep (B := W.heap.size) hsh (fun j t v ht hv => hval j t v (by simpa using ht) (by simpa using hv)) hA
  have hcall := hc svs args.toList W (fun _ => True) (fun _ _ => trivial) (fun r hs => r = .bool true) k1 ⟨k2, rfl⟩
  simp only [Array.toArray_toList] at hcall
  refine hcall.mono fun e W' h => ?_
  obtain ⟨r, hs, v, bs, rfl, rfl, hr, _, hb, _⟩ := h
  have hv := hr.bool_inv
  subst hv
  obtain ⟨s1, s2, s3⟩ := hspec ds hlen
  refine ⟨_, rfl, ds, [], before, [], p, [], hW, ?_, ?_, ?_, hb.frame _, fun h => by cases h⟩
  · rw [List.append_nil, s1, hres]
    have hsz : fn.resultTypes.size = 1 := by rw [← Array.length_toList, hres]; rfl
    have : (Value.bool true).resultList fn.resultTypes.size = [.bool true] := by rw [hsz]; rfl
    rw [this]
    exact trodAll_mk1 (shut_bool htb true)
  · rw [List.append_nil, s2]
    exact params_again hl hb hread hA
  · rw [List.append_nil, s3, hvars]; rfl

end Go.Vx

/- The executor's rules as one set of rewrite rules; forms with literals get rules of their own. -/
/- The executor's rules as one set of rewrite rules; forms with literals get rules of their own. -/
set_option linter.all false
namespace Go.Vx

def idxK (ho : HO) (n size j : Nat) (i : Int) : Option Ef :=
  match ho with
  | .own _ sz m _ => pure1 (0 ≤ i ∧ i < n ∧ sz = size ∧ m = n) (.elem j i.toNat 0 size)
  | .box _ => pure1 (0 ≤ i ∧ i < n) (.ptr j (idxN i size))
  | _ => none
theorem q_idx {hp : List HO} {n size j : Nat} {k : IntKind} {i : Int} : eIdxArr hp n size [.ptr j 0, .int k i] = idxK (getH hp j) n size j i := rfl
theorem idxN_01 : idxN 0 1 = 0 := rfl
theorem idxN_02 : idxN 0 2 = 0 := rfl
theorem idxN_03 : idxN 0 3 = 0 := rfl
theorem idxN_04 : idxN 0 4 = 0 := rfl
theorem idxN_12 : idxN 1 2 = 2 := rfl
theorem idxN_22 : idxN 2 2 = 4 := rfl
theorem idxN_13 : idxN 1 3 = 3 := rfl
theorem idxN_14 : idxN 1 4 = 4 := rfl

def stoK (ho : HO) (size i off : Nat) (vals : List SV) : Option Ef :=
  match ho with
  | .box cs => some { pre := off + size ≤ lenL cs, val := .junk, upd := .set i (.box (spliceL cs off vals)) }
  | .own z sz n _ => match off with
    | 0 => some { pre := size = n * sz ∧ 0 < sz, val := .junk, upd := .set i (.own z sz n (chunk sz vals)) }
    | _ => none
  | .gone => none
def stoE (ho : HO) (size i k off sz : Nat) (vals : List SV) : Option Ef :=
  match ho with
  | .own z size' n get => some { pre := k < n ∧ sz = size' ∧ off + size ≤ sz, val := .junk, upd := .set i (.own z size' n fun j => if j = k then spliceL (get k) off vals else get j) }
  | _ => none
theorem q_stoP {hp : List HO} {size i off : Nat} {vals : List SV} : storeAt hp size vals (.ptr i off) = stoK (getH hp i) size i off vals := rfl
theorem q_stoB {size i off : Nat} {cs vals : List SV} : stoK (.box cs) size i off vals = some { pre := off + size ≤ lenL cs, val := .junk, upd := .set i (.box (spliceL cs off vals)) } := rfl
theorem q_stoO {z : Bool} {sz n size i : Nat} {g : Nat → List SV} {vals : List SV} : stoK (.own z sz n g) size i 0 vals = some { pre := size = n * sz ∧ 0 < sz, val := .junk, upd := .set i (.own z sz n (chunk sz vals)) } := rfl
theorem q_stoE {hp : List HO} {size i k off sz : Nat} {vals : List SV} : storeAt hp size vals (.elem i k off sz) = stoE (getH hp i) size i k off sz vals := rfl

def appN (nx size bytes : Nat) (r : Option (Nat × (Nat → List SV))) : Option Ef :=
  r.bind fun (m, gx) => eNew (.own (decide (m = 0)) size m gx) (.own (nx) 0 m size) (capOk m bytes ∧ ∀ k, k < m → lenL (gx k) = size ∧ ones (gx k))
def appO (ho : HO) (i n sz size bytes : Nat) (r : Option (Nat × (Nat → List SV))) : Option Ef :=
  match ho with
  | .own z s' _ get => r.map fun (m, gx) =>
        { pre := sz = size ∧ s' = size ∧ capOk (n + m) bytes ∧ ∀ k, k < m → lenL (gx k) = size ∧ ones (gx k), val := .own i 0 (n + m) size,
          upd := .app i (.own (z && decide (m = 0)) size (n + m) fun k => if k < n then purgeL i (get k) else purgeL i (gx (k - n))) }
  | _ => none
theorem q_appN {nx : Nat} {hp : List HO} {size bytes : Nat} {x : SV} : eAppend nx hp size bytes [.nil, x] = appN nx size bytes (readS hp x) := rfl
theorem q_appO {nx : Nat} {hp : List HO} {size bytes i n sz : Nat} {x : SV} : eAppend nx hp size bytes [.own i 0 n sz, x] = appO (getH hp i) i n sz size bytes (readS hp x) := rfl
def sliK (ho : HO) (n size j : Nat) : Option Ef :=
  match ho with
  | .own _ sz m _ => pure1 (sz = size ∧ m = n) (.own j 0 n size)
  | _ => none
theorem q_sli {hp : List HO} {n size j : Nat} : eSliceArr hp n size false false [.ptr j 0] = sliK (getH hp j) n size j := rfl

theorem q_ownC {n : Nat} {get : Nat → List SV} : ownCells 0 n get = some (True, flatC n 0 get) := rfl
theorem q_fl1 {get : Nat → List SV} : flatC 1 0 get = get 0 ++ [] := rfl
theorem q_fl2 {get : Nat → List SV} : flatC 2 0 get = get 0 ++ (get 1 ++ []) := rfl
theorem q_fl3 {get : Nat → List SV} : flatC 3 0 get = get 0 ++ (get 1 ++ (get 2 ++ [])) := rfl
theorem q_fl4 {get : Nat → List SV} : flatC 4 0 get = get 0 ++ (get 1 ++ (get 2 ++ (get 3 ++ []))) := rfl
theorem q_ch1 {cs : List SV} : chunk 1 cs 0 = takeL 1 cs := rfl
theorem q_ch11 {cs : List SV} : chunk 1 cs 1 = takeL 1 (dropL 1 cs) := rfl
theorem q_ch12 {cs : List SV} : chunk 1 cs 2 = takeL 1 (dropL 2 cs) := rfl
theorem q_ch13 {cs : List SV} : chunk 1 cs 3 = takeL 1 (dropL 3 cs) := rfl

theorem q_fo (b : Bool) : (false || b) = b := rfl
theorem q_to (b : Bool) : (true || b) = true := rfl
/-- The state at a loop's head where frames below told of block i: they do so no longer. -/
def headPu (s : S) (i : Nat) (keep : List Nat) (ghosts : List HO) (slots : List (Nat × SV)) (blocks : List (Nat × HO)) : S :=
  { fr := putAll (keepG keep s.fr) slots, saved := purgeLL i s.saved, hp := putHs (s.hp ++ ghosts) blocks }
/-- Like Loop.keep; blocks that are written no more may be told as values ('leF': the list of their numbers). -/
theorem Loop.keepF {r : List It → S → Prop} {body : VC} {K : List It} {s : S} (keep : List Nat) (σ : Type) (slots : σ → List (Nat × SV)) (blocks : σ → List (Nat × HO)) (ghosts : List HO) (inv : σ → Prop) (μ : σ → Nat)
    (h0 : ∃ x, inv x ∧ leF s (headK s keep ghosts (slots x) (blocks x)))
    (h : ∀ x, inv x → r (.code body :: .inLoop (fun s' => ∃ y, inv y ∧ μ y < μ x ∧ leF s' (headK s keep ghosts (slots y) (blocks y))) :: K) (headK s keep ghosts (slots x) (blocks x))) : Loop r body K s leF :=
  ⟨σ, fun x => headK s keep ghosts (slots x) (blocks x), inv, μ, leF, fun _ _ h => h, h0, h⟩

attribute [go_sem] u0 u1 u2 w0 w1 calleeM ctM ctI frzV frzL frzLL frzHs frz1 frzP1 frzS frzP eIface r_end r_end1 r_nil r_op r_opg r_runOp r_op0 r_yld0 r_yld1 r_y r_rbeg r_rend r_rend1 r_rfrm r_rfrm1 r_range r_rangeK r_rangeE r_draw r_drawT r_tleaf r_tops r_tbr s_chkF s_chkT VO.isAppend chkG chkA napP napB there r_dnil r_dop r_dopg r_dplq r_dplh r_dq r_dq0 r_dcl1 r_dcl0 r_dct1 r_dct0 r_dgd r_dgq1 r_dgq0 r_dctG r_op1 r_eff r_eff0 r_call r_call0 r_inl r_g r_gq r_gc r_effg r_effg0 r_callg r_callg0 r_fin r_pre r_imp r_all r_ex r_fing r_preg r_exg r_inBlock r_inLoop r_frame r_frame1 r_skip r_stuck r_region r_seq r_cond r_cond1 r_block r_exit r_exit1 r_exit2 r_ret r_loop s_args0 s_args1 s_xt s_xc padL blankL callee callArgs eff ctOf getL setL S.put S.upd unopts unopt unoptsO unoptsB lazyO guardOf gbool eMov eNot eNeg eConv eExt eLenArr eLen eLenStr eEqb eEqv allEq eNil negIf eBool2 eCmp eAri ari eBit eDiv eSh eMinMax foldMin foldMax kEq pure1 cmpB VO.quiet resVals resVal tupled popRet popTo cond eNew eBox asCells lenH snocH eFieldAddr eField eLoad cellsAt getH setH dropL takeL mkAgg lenL lenS shift shiftL shiftH viewN viewL view andT junks eIdxAddr idxN_0 idxN_1 idxN_2 idxN_3 eIndex eStore spliceL ones one eSlice bounds subLo_z addLo_z subLo_one addLo_one eMake readS repL buildCells chunk purgeL purgeLL purgeH purge refs refsL wrOps wrAl wrDtr wrDops wrC junkAt putAll putHs headOf headK keepG headX chkP apartP apartB blk strip runAl AL.ho yld putPs lenN findR notRound jumpK jumpPT jcode idxK q_idx idxN_01 idxN_02 idxN_03 idxN_04 idxN_12 idxN_22 idxN_13 idxN_14 stoE q_stoP q_stoB q_stoO q_stoE appN appO q_appN q_appO sliK q_sli noOwn noOwnL q_ownC q_fl1 q_fl2 q_fl3 q_fl4 q_ch1 q_ch11 q_ch12 q_ch13 headPu q_fo q_to
end Go.Vx

/- Lists and whole numbers in plain Lean, as the proofs of this seat need them. -/
/- Lists and whole numbers in plain Lean, as the proofs of this seat need them. -/
set_option linter.all false
namespace Go.Proofs.YtngccjllkgpjmaaGreat
open Go Go.Vx

theorem w6_raw {x : Int} (h1 : -9223372036854775808 ≤ x) (h2 : x ≤ 9223372036854775807) : IntKind.i64.wrap x = x := IntWalk.i64_in x (by omega)
theorem w_succ {i n : Nat} (h : i < n) (hn : n ≤ 9223372036854775807) : IntKind.i64.wrap ((i : Int) + 1) = ((i + 1 : Nat) : Int) := by
  rw [IntWalk.i64_in _ (by omega)]; simp
theorem getD_mem {α : Type} [Inhabited α] {l : List α} {i : Nat} (h : i < l.length) : l.getD i default ∈ l := by
  rw [List.getD_eq_getElem?_getD, List.getElem?_eq_getElem h]; exact List.getElem_mem h
theorem mem_getD {α : Type} [Inhabited α] {l : List α} {x : α} (h : x ∈ l) : ∃ i, i < l.length ∧ l.getD i default = x := by
  obtain ⟨j, hj, rfl⟩ := List.getElem_of_mem h
  exact ⟨j, hj, by rw [List.getD_eq_getElem?_getD, List.getElem?_eq_getElem hj]; rfl⟩
theorem take_full {α : Type} {l : List α} {i : Nat} (h : l.length ≤ i) : l.take i = l := List.take_of_length_le h
theorem take_succ_eq {α : Type} [Inhabited α] {l : List α} {i : Nat} (h : i < l.length) : l.take (i + 1) = l.take i ++ [l.getD i default] := by
  rw [List.take_add_one, List.getD_eq_getElem?_getD, List.getElem?_eq_getElem h]; rfl
theorem foldl_take_succ {α β : Type} [Inhabited α] {l : List α} {f : β → α → β} {b : β} {i : Nat} (h : i < l.length) : (l.take (i + 1)).foldl f b = f ((l.take i).foldl f b) (l.getD i default) := by
  rw [take_succ_eq h, List.foldl_append]
  rfl
theorem list_ext {α : Type} [Inhabited α] {a b : List α} (h : a.length = b.length) (hh : ∀ i, i < a.length → a.getD i default = b.getD i default) : a = b := by
  refine List.ext_getElem h fun i h1 h2 => ?_
  have := hh i h1
  rwa [List.getD_eq_getElem?_getD, List.getD_eq_getElem?_getD, List.getElem?_eq_getElem h1, List.getElem?_eq_getElem h2] at this

/-- The first number below 'n' for which something holds, else n. -/
def leastF (f : Nat → Bool) : Nat → Nat → Nat
  | 0, k => k
  | n + 1, k => if f k then k else leastF f n (k + 1)

theorem leastF_spec {f : Nat → Bool} : ∀ (n k : Nat), k ≤ leastF f n k ∧ leastF f n k ≤ n + k ∧ (∀ j, k ≤ j → j < leastF f n k → f j = false) ∧ (leastF f n k < n + k → f (leastF f n k) = true)
  | 0, k => ⟨Nat.le_refl _, by simp [leastF], fun j h1 h2 => by simp [leastF] at h2; omega, fun h => by simp [leastF] at h⟩
  | n + 1, k => by
    unfold leastF
    split
    · rename_i h; exact ⟨Nat.le_refl _, by omega, fun j h1 h2 => by omega, fun _ => h⟩
    · rename_i h
      obtain ⟨h1, h2, h3, h4⟩ := leastF_spec (f := f) n (k + 1)
      refine ⟨by omega, by omega, fun j a b => ?_, fun hlt => h4 (by omega)⟩
      rcases Nat.lt_or_ge k j with h' | h'
      · exact h3 j h' b
      · obtain rfl : j = k := by omega
        simpa using h
theorem leastF_eq {f : Nat → Bool} {n m : Nat} (h1 : ∀ j, j < m → f j = false) (h2 : m ≤ n) (h3 : m < n → f m = true) : leastF f n 0 = m := by
  obtain ⟨a, b, c, d⟩ := leastF_spec (f := f) n 0
  rcases Nat.lt_trichotomy (leastF f n 0) m with h | h | h
  · have := h1 _ h
    rw [d (by omega)] at this; cases this
  · exact h
  · have := c m (Nat.zero_le _) h
    rw [h3 (by omega)] at this; cases this

theorem mul_le' {a b c d : Int} (h1 : a ≤ c) (h2 : b ≤ d) (ha : 0 ≤ a) (hd : 0 ≤ d) : a * b ≤ c * d :=
  Int.le_trans (Int.mul_le_mul_of_nonneg_left h2 ha) (Int.mul_le_mul_of_nonneg_right h1 hd)

def noC : CRes := .pre False (.fin .junk [])
def trueC : Ctr := { alias := false, of := fun a => match a with
  | [] => .fin (.bool true) []
  | _ => noC }

/-- A list came in. -/
def lsP {α : Type} [Inhabited α] (size : Nat) (e : α → List SV) (n sz : Nat) (get : Nat → List SV) (l : List α) : Prop := sz = size ∧ n = l.length ∧ ∀ k, k < n → leXL (get k) (e (l.getD k default))
theorem lsP_self {α : Type} [Inhabited α] {size : Nat} {e : α → List SV} {l : List α} : lsP size e l.length size (fun k => e (l.getD k default)) l := ⟨rfl, rfl, fun k _ => leXL_self _⟩

def enc1 (x : Int) : List SV := [.int .i64 x]
def enc2 (x : Int × Int) : List SV := [.int .i64 x.1, .int .i64 x.2]

theorem maxLen_eq : maxLen = 9223372036854775807 := by decide

theorem mid {i j m : Nat} (hi : i ≤ m) (hj : j ≤ m) (hm : m ≤ 4611686018427387903) : IntKind.i64.wrap ((IntKind.u64.wrap (IntKind.i64.wrap ((i : Int) + (j : Int)))).fdiv (2 ^ min (1 : Int).toNat IntKind.u64.bits)) = (((i + j) / 2 : Nat) : Int) := by
  have e1 : IntKind.i64.wrap ((i : Int) + (j : Int)) = (i : Int) + j := IntWalk.i64_in _ (by omega)
  have e2 : IntKind.u64.wrap ((i : Int) + (j : Int)) = (i : Int) + j := IntWalk.u64_in _ (by omega)
  have e3 : (2 : Int) ^ min (1 : Int).toNat IntKind.u64.bits = 2 := by decide
  rw [e1, e2, e3, Int.fdiv_eq_ediv_of_nonneg _ (by omega), IntWalk.i64_in _ (by omega)]
  omega

theorem slice_of {α : Type} [Inhabited α] {sh : List Sh} {e : α → List SV} (hof : ∀ c, okSL sh c → ∃ a, leXL c (e a)) {v : SV} (h : okS (.slice sh) v) : ∃ (z : Bool) (l : List α), l.length ≤ maxLen ∧ leX v (.vs false z l.length (lenSh sh) (fun k => e (l.getD k default))) := by
  obtain ⟨z, n, get, rfl, hn, hg⟩ := h
  obtain ⟨l, hl, hp⟩ := list_of (P := fun k a => leXL (get k) (e a)) fun k hk => hof _ (hg k hk)
  exact ⟨z, l, by rw [hl]; exact hn, fun h => h, rfl, hl.symm, rfl, hp⟩
end Go.Proofs.YtngccjllkgpjmaaGreat

/- Numbers by limbs of 32 bits, in plain Lean: digits, lengths, sums, differences, products. -/
/- Numbers by limbs of 32 bits, in plain Lean: digits, lengths, sums, differences, products. -/
set_option linter.all false
namespace Go.Proofs.YtngccjllkgpjmaaGreat
open Go Go.Vx

/-- The limb at a place. -/
def dig (a i : Nat) : Nat := a / 4294967296 ^ i % 4294967296

theorem pw_pos (i : Nat) : 0 < 4294967296 ^ i := Nat.pow_pos (by decide)
theorem pw_succ (i : Nat) : 4294967296 ^ (i + 1) = 4294967296 ^ i * 4294967296 := Nat.pow_succ ..
theorem dig_lt (a i : Nat) : dig a i < 4294967296 := Nat.mod_lt _ (by decide)
theorem mod_pw (a i : Nat) : a % 4294967296 ^ (i + 1) = a % 4294967296 ^ i + 4294967296 ^ i * dig a i := Nat.mod_pow_succ
theorem dig_0 (a : Nat) : dig a 0 = a % 4294967296 := by simp [dig]
theorem dig_zero (i : Nat) : dig 0 i = 0 := by simp [dig]
theorem dig_succ (a i : Nat) : dig a (i + 1) = dig (a / 4294967296) i := by
  unfold dig
  rw [Nat.div_div_eq_div_mul, pw_succ, Nat.mul_comm]
theorem dig_big {a n i : Nat} (h : a < 4294967296 ^ n) (hi : n ≤ i) : dig a i = 0 := by
  unfold dig
  rw [Nat.div_eq_of_lt]
  exact Nat.lt_of_lt_of_le h (Nat.pow_le_pow_right (by decide) hi)
theorem mod_ext {a b : Nat} : ∀ {n : Nat}, (∀ i, i < n → dig a i = dig b i) → a % 4294967296 ^ n = b % 4294967296 ^ n
  | 0, _ => by simp [Nat.mod_one]
  | n + 1, h => by rw [mod_pw, mod_pw, mod_ext fun i hi => h i (by omega), h n (by omega)]
theorem dig_ext {a b n : Nat} (ha : a < 4294967296 ^ n) (hb : b < 4294967296 ^ n) (h : ∀ i, i < n → dig a i = dig b i) : a = b := by
  have := mod_ext h
  rwa [Nat.mod_eq_of_lt ha, Nat.mod_eq_of_lt hb] at this
theorem dig_mod {a j k : Nat} (h : k < j) : dig (a % 4294967296 ^ j) k = dig a k := by
  unfold dig
  obtain ⟨m, rfl⟩ : ∃ m, j = k + (m + 1) := ⟨j - k - 1, by omega⟩
  rw [Nat.pow_add, Nat.mod_mul_right_div_self, Nat.pow_succ, Nat.mul_comm, Nat.mod_mul_right_mod]

/-- The number of limbs. -/
def nlF : Nat → Nat → Nat
  | 0, _ => 0
  | f + 1, a => if a = 0 then 0 else nlF f (a / 4294967296) + 1
def nl (a : Nat) : Nat := nlF a a

theorem nlF_le : ∀ (f a n : Nat), a ≤ f → (nlF f a ≤ n ↔ a < 4294967296 ^ n)
  | 0, a, n, h => by
    have := pw_pos n
    simp only [nlF]; omega
  | f + 1, a, n, h => by
    simp only [nlF]
    split
    · rename_i h0; have := pw_pos n; subst h0; simp; omega
    · cases n with
      | zero => simp; omega
      | succ n =>
        have := nlF_le f (a / 4294967296) n (by omega)
        rw [pw_succ, ← Nat.div_lt_iff_lt_mul (by decide), ← this]
        omega
theorem nl_le {a n : Nat} : nl a ≤ n ↔ a < 4294967296 ^ n := nlF_le a a n (Nat.le_refl _)
theorem nl_lt (a : Nat) : a < 4294967296 ^ nl a := nl_le.1 (Nat.le_refl _)
theorem nl_0 : nl 0 = 0 := rfl
theorem nl_pos {a : Nat} : 0 < nl a ↔ 0 < a := by
  have := @nl_le a 0
  simp at this; omega
theorem nl_eq0 {a : Nat} : nl a = 0 ↔ a = 0 := by
  have := @nl_le a 0
  simp at this; omega
theorem nl_top {a : Nat} (h : a ≠ 0) : dig a (nl a - 1) ≠ 0 := by
  obtain ⟨n, hn⟩ : ∃ n, nl a = n + 1 := ⟨nl a - 1, by have := nl_eq0 (a := a); omega⟩
  rw [hn, Nat.add_sub_cancel]
  have h1 := nl_lt a
  have h2 : ¬ a < 4294967296 ^ n := fun hh => by have := nl_le.2 hh; omega
  rw [hn, pw_succ] at h1
  unfold dig
  have h3 : a / 4294967296 ^ n < 4294967296 := by rw [Nat.div_lt_iff_lt_mul (pw_pos n), Nat.mul_comm]; exact h1
  rw [Nat.mod_eq_of_lt h3]
  have := Nat.div_pos (Nat.le_of_not_lt h2) (pw_pos n)
  omega
theorem nl_mono {a b : Nat} (h : a ≤ b) : nl a ≤ nl b := nl_le.2 (Nat.lt_of_le_of_lt h (nl_lt b))

/-- Trimmed: limbs 0 at the end. -/
theorem nl_trim {a n : Nat} (h : a < 4294967296 ^ n) (ht : n = 0 ∨ dig a (n - 1) ≠ 0) : nl a = n := by
  have h1 := nl_le.2 h
  rcases ht with rfl | ht
  · omega
  · rcases Nat.lt_or_ge (nl a) n with h2 | h2
    · exact absurd (dig_big (nl_lt a) (by omega : nl a ≤ n - 1)) ht
    · omega
theorem lt_trim {a n : Nat} (h : a < 4294967296 ^ (n + 1)) (h0 : dig a n = 0) : a < 4294967296 ^ n := by
  have := mod_pw a n
  rw [h0, Nat.mod_eq_of_lt h] at this
  rw [this]
  simpa using Nat.mod_lt a (pw_pos n)

/-- What is carried to a place. -/
def cy (a b i : Nat) : Nat := (a % 4294967296 ^ i + b % 4294967296 ^ i) / 4294967296 ^ i
theorem cy_0 (a b : Nat) : cy a b 0 = 0 := by simp [cy, Nat.mod_one]
theorem cy_le (a b i : Nat) : cy a b i ≤ 1 := by
  unfold cy
  have h1 := Nat.mod_lt a (pw_pos i)
  have h2 := Nat.mod_lt b (pw_pos i)
  have : (a % 4294967296 ^ i + b % 4294967296 ^ i) / 4294967296 ^ i < 2 := by
    rw [Nat.div_lt_iff_lt_mul (pw_pos i)]; omega
  omega
theorem div_pw (a b i : Nat) : (a + b) / 4294967296 ^ i = a / 4294967296 ^ i + b / 4294967296 ^ i + cy a b i := by
  unfold cy
  have h1 := Nat.div_add_mod a (4294967296 ^ i)
  have h2 := Nat.div_add_mod b (4294967296 ^ i)
  generalize hP : 4294967296 ^ i = P at *
  have hp : 0 < P := hP ▸ pw_pos i
  have e : a + b = P * (a / P + b / P) + (a % P + b % P) := by rw [Nat.mul_add]; omega
  conv => lhs; rw [e]
  rw [Nat.mul_add_div hp]
theorem add_dig (a b i : Nat) : (dig a i + dig b i + cy a b i) % 4294967296 = dig (a + b) i := by
  unfold dig
  rw [div_pw]
  omega
theorem add_cy (a b i : Nat) : (dig a i + dig b i + cy a b i) / 4294967296 = cy a b (i + 1) := by
  have e : cy a b (i + 1) = (a % 4294967296 ^ (i + 1) + b % 4294967296 ^ (i + 1)) / 4294967296 ^ (i + 1) := rfl
  rw [e, mod_pw, mod_pw, pw_succ, ← Nat.div_div_eq_div_mul]
  unfold cy
  generalize hP : 4294967296 ^ i = P at *
  have hp : 0 < P := hP ▸ pw_pos i
  have e : a % P + P * dig a i + (b % P + P * dig b i) = P * (dig a i + dig b i) + (a % P + b % P) := by rw [Nat.mul_add]; omega
  rw [e, Nat.mul_add_div hp]

/-! ### Differences: what is owed is what the sum carries -/

theorem sub_dig {a b : Nat} (h : b ≤ a) (i : Nat) : (4294967296 + dig a i - dig b i - cy b (a - b) i) % 4294967296 = dig (a - b) i ∧ 1 - (4294967296 + dig a i - dig b i - cy b (a - b) i) / 4294967296 = cy b (a - b) (i + 1)
    ∧ dig b i + cy b (a - b) i ≤ 4294967296 + dig a i ∧ 4294967296 + dig a i - dig b i - cy b (a - b) i < 8589934592 := by
  have e1 := add_dig b (a - b) i
  have e2 := add_cy b (a - b) i
  rw [show b + (a - b) = a by omega] at e1
  have h1 := dig_lt b i
  have h2 := dig_lt (a - b) i
  have h3 := cy_le b (a - b) i
  have h4 := cy_le b (a - b) (i + 1)
  omega

/-! ### A limb is written -/

def setD (V j x : Nat) : Nat := V - dig V j * 4294967296 ^ j + x * 4294967296 ^ j

theorem split_dig (V j : Nat) : V = 4294967296 ^ j * (4294967296 * (V / 4294967296 ^ (j + 1)) + dig V j) + V % 4294967296 ^ j := by
  have h1 := Nat.div_add_mod V (4294967296 ^ j)
  have h2 := Nat.div_add_mod (V / 4294967296 ^ j) 4294967296
  rw [Nat.div_div_eq_div_mul, ← pw_succ] at h2
  unfold dig
  rw [h2, h1]
theorem setD_eq (V j x : Nat) : setD V j x = 4294967296 ^ j * (4294967296 * (V / 4294967296 ^ (j + 1)) + x) + V % 4294967296 ^ j := by
  have := split_dig V j
  unfold setD
  generalize dig V j = d at *
  generalize V / 4294967296 ^ (j + 1) = h at *
  generalize V % 4294967296 ^ j = l at *
  generalize 4294967296 ^ j = P at *
  rw [Nat.mul_add] at this ⊢
  rw [Nat.mul_comm d, Nat.mul_comm x]
  omega
theorem setD_add (V j x : Nat) : setD V j x + dig V j * 4294967296 ^ j = V + x * 4294967296 ^ j := by
  have := split_dig V j
  rw [setD_eq]
  generalize dig V j = d at *
  generalize V / 4294967296 ^ (j + 1) = h at *
  generalize V % 4294967296 ^ j = l at *
  generalize 4294967296 ^ j = P at *
  rw [Nat.mul_add] at this ⊢
  rw [Nat.mul_comm d, Nat.mul_comm x]
  omega
theorem setD_div {V j x : Nat} (hx : x < 4294967296) : setD V j x / 4294967296 ^ (j + 1) = V / 4294967296 ^ (j + 1) := by
  have hl := Nat.mod_lt V (pw_pos j)
  have e : ∀ Y : Nat, Y / 4294967296 ^ (j + 1) = Y / 4294967296 ^ j / 4294967296 := fun Y => by rw [pw_succ, Nat.div_div_eq_div_mul]
  rw [setD_eq, e (4294967296 ^ j * (4294967296 * (V / 4294967296 ^ (j + 1)) + x) + V % 4294967296 ^ j), Nat.mul_add_div (pw_pos j), Nat.div_eq_of_lt hl]
  generalize V / 4294967296 ^ (j + 1) = h
  omega
theorem dig_setD {V j x : Nat} (hx : x < 4294967296) (k : Nat) : dig (setD V j x) k = if k = j then x else dig V k := by
  have hl := Nat.mod_lt V (pw_pos j)
  rcases Nat.lt_trichotomy k j with h | h | h
  · rw [if_neg (by omega), ← dig_mod h, ← dig_mod (a := V) h, setD_eq, Nat.mul_add_mod, Nat.mod_mod]
  · subst h
    rw [if_pos rfl, setD_eq]
    unfold dig
    rw [Nat.mul_add_div (pw_pos k), Nat.div_eq_of_lt hl]
    omega
  · rw [if_neg (by omega)]
    obtain ⟨m, rfl⟩ : ∃ m, k = (j + 1) + m := ⟨k - (j + 1), by omega⟩
    unfold dig
    have e : setD V j x / 4294967296 ^ (j + 1) = V / 4294967296 ^ (j + 1) := by
      exact setD_div hx
    rw [Nat.pow_add, ← Nat.div_div_eq_div_mul, ← Nat.div_div_eq_div_mul, e]
theorem setD_lt {V j x n : Nat} (hV : V < 4294967296 ^ n) (hx : x < 4294967296) (hj : j < n) : setD V j x < 4294967296 ^ n := by
  obtain ⟨m, rfl⟩ : ∃ m, n = m + (j + 1) := ⟨n - (j + 1), by omega⟩
  rw [Nat.pow_add, ← Nat.div_lt_iff_lt_mul (pw_pos _)] at hV ⊢
  rw [setD_div hx]
  exact hV

/-- A step of a product's row. -/
theorem mul_step {a b i k V c : Nat} (h : V + c * 4294967296 ^ (i + k) = (a % 4294967296 ^ i) * b + dig a i * (b % 4294967296 ^ k) * 4294967296 ^ i) :
    setD V (i + k) ((dig V (i + k) + dig a i * dig b k + c) % 4294967296) + ((dig V (i + k) + dig a i * dig b k + c) / 4294967296) * 4294967296 ^ (i + (k + 1)) = (a % 4294967296 ^ i) * b + dig a i * (b % 4294967296 ^ (k + 1)) * 4294967296 ^ i := by
  have e1 := setD_add V (i + k) ((dig V (i + k) + dig a i * dig b k + c) % 4294967296)
  have e2 := Nat.div_add_mod (dig V (i + k) + dig a i * dig b k + c) 4294967296
  rw [mod_pw, show i + (k + 1) = (i + k) + 1 by omega, pw_succ]
  rw [Nat.pow_add] at *
  generalize setD V (i + k) ((dig V (i + k) + dig a i * dig b k + c) % 4294967296) = V' at *
  generalize (dig V (i + k) + dig a i * dig b k + c) % 4294967296 = r at *
  generalize (dig V (i + k) + dig a i * dig b k + c) / 4294967296 = q at *
  generalize dig V (i + k) = d at *
  generalize dig a i = x at *
  generalize dig b k = y at *
  generalize b % 4294967296 ^ k = bm at *
  generalize a % 4294967296 ^ i = am at *
  generalize 4294967296 ^ i = P at *
  generalize 4294967296 ^ k = R at *
  grind
theorem mul_bound {d x y c : Nat} (hd : d < 4294967296) (hx : x < 4294967296) (hy : y < 4294967296) (hc : c < 4294967296) : d + x * y + c < 18446744073709551616 ∧ (d + x * y + c) / 4294967296 < 4294967296 := by
  have : x * y ≤ 4294967295 * 4294967295 := Nat.mul_le_mul (by omega) (by omega)
  omega

theorem mul_lt {a b i n m : Nat} (hi : i ≤ n) (ha : a < 4294967296 ^ n) (hb : b < 4294967296 ^ m) : (a % 4294967296 ^ i) * b < 4294967296 ^ (n + m + 1) := by
  have h1 := Nat.mod_lt a (pw_pos i)
  have h2 : a % 4294967296 ^ i ≤ 4294967296 ^ n := Nat.le_trans (Nat.le_of_lt h1) (Nat.pow_le_pow_right (by decide) hi)
  have h3 : (a % 4294967296 ^ i) * b ≤ 4294967296 ^ n * 4294967296 ^ m := Nat.mul_le_mul h2 (Nat.le_of_lt hb)
  rw [← Nat.pow_add] at h3
  rw [pw_succ]
  have := pw_pos (n + m)
  omega

/-! ### Order -/

theorem dig_div (a m k : Nat) : dig (a / 4294967296 ^ m) k = dig a (m + k) := by
  unfold dig
  rw [Nat.pow_add, Nat.div_div_eq_div_mul]
theorem nat_big (a b : Nat) : ∃ n, a < 4294967296 ^ n ∧ b < 4294967296 ^ n :=
  ⟨nl a + nl b, Nat.lt_of_lt_of_le (nl_lt a) (Nat.pow_le_pow_right (by decide) (by omega)), Nat.lt_of_lt_of_le (nl_lt b) (Nat.pow_le_pow_right (by decide) (by omega))⟩
theorem dig_all {a b : Nat} (h : ∀ i, dig a i = dig b i) : a = b := by
  obtain ⟨n, h1, h2⟩ := nat_big a b
  exact dig_ext h1 h2 fun i _ => h i
theorem div_eq {a b m : Nat} (h : ∀ i, m ≤ i → dig a i = dig b i) : a / 4294967296 ^ m = b / 4294967296 ^ m :=
  dig_all fun i => by rw [dig_div, dig_div]; exact h _ (by omega)
theorem dig_cmp {a b j : Nat} (h : ∀ i, j < i → dig a i = dig b i) (hd : dig a j < dig b j) : a < b := by
  have h1 := split_dig a j
  have h2 := split_dig b j
  rw [div_eq (m := j + 1) fun i hi => h i hi] at h1
  have h3 := Nat.mod_lt a (pw_pos j)
  generalize b / 4294967296 ^ (j + 1) = q at *
  generalize 4294967296 ^ j = P at *
  generalize a % P = x at *
  generalize b % P = y at *
  generalize dig a j = d at *
  generalize dig b j = e at *
  have : P * (4294967296 * q + d) + P ≤ P * (4294967296 * q + e) := by
    rw [← Nat.mul_succ]; exact Nat.mul_le_mul_left _ (by omega)
  omega
def ordN (a b : Nat) : Int := if a < b then -1 else if b < a then 1 else 0

theorem w_pred {j : Nat} (h : 0 < j) (hj : j ≤ 9223372036854775807) : IntKind.i64.wrap ((j : Int) - 1) = ((j - 1 : Nat) : Int) := by
  rw [IntWalk.i64_in _ (by omega)]; omega
theorem u_nat {x : Nat} (h : x < 18446744073709551616) : IntKind.u64.wrap (x : Int) = x := IntWalk.u64_in _ (by omega)
theorem u3_nat {x : Nat} (h : x < 4294967296) : IntKind.u32.wrap (x : Int) = x := IntWalk.u32_in _ (by omega)
theorem u_add {x y : Nat} (h : x + y < 18446744073709551616) : IntKind.u64.wrap ((x : Int) + (y : Int)) = ((x + y : Nat) : Int) := by rw [IntWalk.u64_in _ (by omega)]; simp
theorem u_mul {x y : Nat} (h : x * y < 18446744073709551616) : IntKind.u64.wrap ((x : Int) * (y : Int)) = ((x * y : Nat) : Int) := by
  rw [← Int.natCast_mul]; exact u_nat h
theorem u_sub {x y : Nat} (h : y ≤ x) (hx : x < 18446744073709551616) : IntKind.u64.wrap ((x : Int) - (y : Int)) = ((x - y : Nat) : Int) := by
  rw [IntWalk.u64_in _ (by omega)]; omega
theorem u_rem (x : Nat) : ((x : Int)).tmod 4294967296 = ((x % 4294967296 : Nat) : Int) := IntWalk.up_tmod rfl rfl
theorem u_quo {x : Nat} (h : x < 18446744073709551616) : IntKind.u64.wrap (((x : Int)).tdiv 4294967296) = ((x / 4294967296 : Nat) : Int) := by
  have e : ((x : Int)).tdiv 4294967296 = ((x / 4294967296 : Nat) : Int) := IntWalk.up_tdiv (y := 4294967296) rfl rfl
  rw [e]; exact u_nat (by omega)
theorem u3_rem (x : Nat) : IntKind.u32.wrap (((x : Int)).tmod 4294967296) = ((x % 4294967296 : Nat) : Int) := by
  rw [u_rem]; exact u3_nat (Nat.mod_lt _ (by decide))

end Go.Proofs.YtngccjllkgpjmaaGreat

/- Numbers by limbs, in plain Lean: bits, doubling, division. -/
/- Numbers by limbs, in plain Lean: bits, doubling, division. -/
set_option linter.all false
namespace Go.Proofs.YtngccjllkgpjmaaGreat
open Go Go.Vx

/-- The number of bits. -/
def bitsF : Nat → Nat → Nat
  | 0, _ => 0
  | f + 1, a => if a = 0 then 0 else bitsF f (a / 2) + 1
def bitsN (a : Nat) : Nat := bitsF a a

theorem p2_pos (i : Nat) : 0 < 2 ^ i := Nat.pow_pos (by decide)
theorem bitsF_le : ∀ (f a n : Nat), a ≤ f → (bitsF f a ≤ n ↔ a < 2 ^ n)
  | 0, a, n, h => by
    have := p2_pos n
    simp only [bitsF]; omega
  | f + 1, a, n, h => by
    simp only [bitsF]
    split
    · rename_i h0; have := p2_pos n; subst h0; simp; omega
    · cases n with
      | zero => simp; omega
      | succ n =>
        have := bitsF_le f (a / 2) n (by omega)
        rw [Nat.pow_succ, ← Nat.div_lt_iff_lt_mul (by decide), ← this]
        omega
theorem bitsN_le {a n : Nat} : bitsN a ≤ n ↔ a < 2 ^ n := bitsF_le a a n (Nat.le_refl _)
theorem bitsN_lt (a : Nat) : a < 2 ^ bitsN a := bitsN_le.1 (Nat.le_refl _)
theorem bitsN_0 : bitsN 0 = 0 := rfl
theorem bitsN_half {a : Nat} (h : 0 < a) : bitsN a = bitsN (a / 2) + 1 := by
  have h1 : ∀ n, bitsN a ≤ n ↔ bitsN (a / 2) + 1 ≤ n := fun n => by
    cases n with
    | zero => have := @bitsN_le a 0; simp at this; omega
    | succ n => rw [bitsN_le, Nat.pow_succ, ← Nat.div_lt_iff_lt_mul (by decide), ← bitsN_le]; omega
  have a1 := (h1 (bitsN (a / 2) + 1)).2 (Nat.le_refl _)
  have a2 := (h1 (bitsN a)).1 (Nat.le_refl _)
  omega
theorem bitsN_eq0 {a : Nat} : bitsN a = 0 ↔ a = 0 := by
  have := @bitsN_le a 0
  simp at this; omega
theorem pw_two (m : Nat) : 4294967296 ^ m = 2 ^ (32 * m) := by
  rw [Nat.pow_mul]
theorem bitsN_top {a m : Nat} (h : nl a = m + 1) : bitsN a = 32 * m + bitsN (dig a m) := by
  have h1 := nl_lt a
  have h2 : ¬ a < 4294967296 ^ m := fun hh => by have := nl_le.2 hh; omega
  rw [h, pw_succ] at h1
  have h3 : a / 4294967296 ^ m < 4294967296 := by rw [Nat.div_lt_iff_lt_mul (pw_pos m), Nat.mul_comm]; exact h1
  have h4 : dig a m = a / 4294967296 ^ m := by unfold dig; rw [Nat.mod_eq_of_lt h3]
  have h5 : ∀ t, bitsN a ≤ 32 * m + t ↔ bitsN (dig a m) ≤ t := fun t => by
    rw [bitsN_le, bitsN_le, Nat.pow_add, ← pw_two, h4, Nat.div_lt_iff_lt_mul (pw_pos m), Nat.mul_comm]
  have h6 : 32 * m ≤ bitsN a := by
    rcases Nat.lt_or_ge (bitsN a) (32 * m) with h' | h'
    · exact absurd (by rw [pw_two]; exact bitsN_le.1 (Nat.le_of_lt h')) h2
    · exact h'
  have a1 := (h5 (bitsN (dig a m))).2 (Nat.le_refl _)
  have a2 := (h5 (bitsN a - 32 * m)).1 (by omega)
  omega
theorem bitsN_nl (a : Nat) : bitsN a ≤ 32 * nl a := by
  rw [bitsN_le, ← pw_two]; exact nl_lt a

/-- A bit. -/
def bitN (a i : Nat) : Nat := a / 2 ^ i % 2
theorem bitN_lt (a i : Nat) : bitN a i < 2 := Nat.mod_lt _ (by decide)
theorem mod_div_bit {y r : Nat} (h : r < 32) : y % 4294967296 / 2 ^ r % 2 = y / 2 ^ r % 2 := by
  have e : (4294967296 : Nat) = 2 ^ r * (2 * 2 ^ (31 - r)) := by
    have h1 : (2 : Nat) * 2 ^ (31 - r) = 2 ^ (32 - r) := by
      rw [Nat.mul_comm, ← Nat.pow_succ]; congr 1; omega
    rw [h1, ← Nat.pow_add, show r + (32 - r) = 32 by omega]
  rw [e, Nat.mod_mul_right_div_self, Nat.mod_mul_right_mod]
theorem bitN_dig (a i : Nat) : bitN a i = dig a (i / 32) / 2 ^ (i % 32) % 2 := by
  unfold bitN dig
  rw [mod_div_bit (Nat.mod_lt _ (by decide)), pw_two, Nat.div_div_eq_div_mul, ← Nat.pow_add]
  congr 3; omega
theorem half_bit (a i : Nat) : a / 2 ^ i = 2 * (a / 2 ^ (i + 1)) + bitN a i := by
  unfold bitN
  rw [Nat.pow_succ, ← Nat.div_div_eq_div_mul]
  generalize a / 2 ^ i = y
  omega

/-! ### Doubling -/

theorem dig_mod_if (a j k : Nat) : dig (a % 4294967296 ^ j) k = if k < j then dig a k else 0 := by
  split
  · exact dig_mod ‹_›
  · exact dig_big (Nat.mod_lt _ (pw_pos j)) (by omega)
/-- What is carried when a number is doubled. -/
def dcy (a x i : Nat) : Nat := (2 * (a % 4294967296 ^ i) + x) / 4294967296 ^ i
theorem dcy_0 (a x : Nat) : dcy a x 0 = x := by simp [dcy, Nat.mod_one]
theorem dcy_le {a x i : Nat} (hx : x ≤ 1) : dcy a x i ≤ 1 := by
  unfold dcy
  have h1 := Nat.mod_lt a (pw_pos i)
  have : (2 * (a % 4294967296 ^ i) + x) / 4294967296 ^ i < 2 := by
    rw [Nat.div_lt_iff_lt_mul (pw_pos i)]; omega
  omega
theorem dbl_dig (a x i : Nat) : (2 * dig a i + dcy a x i) % 4294967296 = dig (2 * a + x) i := by
  have e : (2 * a + x) / 4294967296 ^ i = 2 * (a / 4294967296 ^ i) + dcy a x i := by
    unfold dcy
    have h1 := Nat.div_add_mod a (4294967296 ^ i)
    generalize hP : 4294967296 ^ i = P at *
    have hp : 0 < P := hP ▸ pw_pos i
    have e : 2 * a + x = P * (2 * (a / P)) + (2 * (a % P) + x) := by rw [← Nat.mul_assoc, Nat.mul_comm P 2, Nat.mul_assoc]; omega
    conv => lhs; rw [e]
    rw [Nat.mul_add_div hp]
  unfold dig
  rw [e]
  omega
theorem dbl_cy (a x i : Nat) : (2 * dig a i + dcy a x i) / 4294967296 = dcy a x (i + 1) := by
  have e : dcy a x (i + 1) = (2 * (a % 4294967296 ^ (i + 1)) + x) / 4294967296 ^ (i + 1) := rfl
  rw [e, mod_pw, pw_succ, ← Nat.div_div_eq_div_mul]
  unfold dcy
  generalize hP : 4294967296 ^ i = P at *
  have hp : 0 < P := hP ▸ pw_pos i
  have e : 2 * (a % P + P * dig a i) + x = P * (2 * dig a i) + (2 * (a % P) + x) := by rw [Nat.mul_add, ← Nat.mul_assoc, Nat.mul_comm 2 P, Nat.mul_assoc]; omega
  rw [e, Nat.mul_add_div hp]
theorem dcy_top {a x n : Nat} (h : a < 4294967296 ^ n) : dcy a x n = dig (2 * a + x) n ∨ 1 < x := by
  rcases Nat.lt_or_ge 1 x with hx | hx
  · exact .inr hx
  · left
    have h1 := dbl_dig a x n
    rw [dig_big h (Nat.le_refl _)] at h1
    have := dcy_le (a := a) (i := n) hx
    omega

/-! ### Bits of words, as the model computes them -/

theorem and_one (x : Nat) : IntKind.u32.wrap ((BitVec.ofInt 32 (x : Int) &&& BitVec.ofInt 32 1).toNat : Int) = ((x % 2 : Nat) : Int) := by
  have e : (BitVec.ofInt 32 (x : Int) &&& BitVec.ofInt 32 1).toNat = x % 2 := by
    rw [BitVec.toNat_and]
    have h1 : (BitVec.ofInt 32 (x : Int)).toNat = x % 4294967296 := by simp [BitVec.toNat_ofInt] <;> omega
    have h2 : (BitVec.ofInt 32 1).toNat = 1 := by decide
    rw [h1, h2, Nat.and_one_is_mod] <;> omega
  rw [e]; exact u3_nat (by omega)
theorem ofInt_nat {x : Nat} (h : x < 4294967296) : (BitVec.ofInt 32 (x : Int)).toNat = x := by
  simp [BitVec.toNat_ofInt]; omega
theorem or_nat {x y : Nat} (hx : x < 4294967296) (hy : y < 4294967296) : IntKind.u32.wrap ((BitVec.ofInt 32 (x : Int) ||| BitVec.ofInt 32 (y : Int)).toNat : Int) = ((x ||| y : Nat) : Int) := by
  rw [BitVec.toNat_or, ofInt_nat hx, ofInt_nat hy]
  exact u3_nat (Nat.or_lt_two_pow (n := 32) hx hy)
/-- A bit that is not there is added. -/
theorem or_add {d s : Nat} (h : d / 2 ^ s % 2 = 0) : d ||| 2 ^ s = d + 2 ^ s := by
  have h1 := Nat.div_add_mod d (2 ^ s)
  have h2 := Nat.mod_lt d (p2_pos s)
  have e : d = 2 ^ s * (d / 2 ^ s) + d % 2 ^ s := h1.symm
  apply Nat.eq_of_testBit_eq
  intro j
  rw [Nat.testBit_or, Nat.testBit_two_pow]
  by_cases hj : s = j
  · subst hj
    have : (d + 2 ^ s).testBit s = !d.testBit s := by
      rw [Nat.add_comm]; exact Nat.testBit_two_pow_add_eq d s
    have hb : d.testBit s = false := by
      rw [Nat.testBit_eq_decide_div_mod_eq]; simp [h]
    rw [this, hb]; simp
  · have : (d + 2 ^ s).testBit j = d.testBit j := by
      rcases Nat.lt_or_ge j s with hlt | hge
      · rw [Nat.add_comm]; exact Nat.testBit_two_pow_add_gt hlt d
      · have hgt : s < j := by omega
        rw [Nat.testBit_eq_decide_div_mod_eq, Nat.testBit_eq_decide_div_mod_eq]
        have : (d + 2 ^ s) / 2 ^ j = d / 2 ^ j := by
          obtain ⟨m, rfl⟩ : ∃ m, j = s + 1 + m := ⟨j - (s + 1), by omega⟩
          rw [Nat.pow_add, ← Nat.div_div_eq_div_mul, ← Nat.div_div_eq_div_mul, Nat.pow_succ, ← Nat.div_div_eq_div_mul, ← Nat.div_div_eq_div_mul, Nat.add_div_right _ (p2_pos s)]
          congr 1; omega
        rw [this]
    rw [this]; simp [hj]

theorem dbl_or {d c : Nat} (hd : d < 4294967296) (hc : c ≤ 1) : IntKind.u32.wrap ((BitVec.ofInt 32 (IntKind.u32.wrap ((d : Int) * 2 ^ min (Int.toNat 1) 32)) ||| BitVec.ofInt 32 (c : Int)).toNat : Int) = (((2 * d + c) % 4294967296 : Nat) : Int) := by
  have e : IntKind.u32.wrap ((d : Int) * 2 ^ min (Int.toNat 1) 32) = ((2 * d % 4294967296 : Nat) : Int) := by
    have : (2 : Int) ^ min (Int.toNat 1) 32 = 2 := by decide
    rw [this, IntKind.wrap_u32]; omega
  rw [e, or_nat (by omega) (by omega)]
  rcases Nat.eq_zero_or_pos c with h0 | h0
  · subst h0; simp
  · obtain rfl : c = 1 := by omega
    have h2 : (2 * d % 4294967296) ||| 2 ^ 0 = 2 * d % 4294967296 + 2 ^ 0 := or_add (by omega)
    rw [Nat.pow_zero] at h2
    rw [h2]; omega
theorem dbl_shr {d : Nat} : (d : Int).fdiv (2 ^ min (Int.toNat 31) 32) = ((d / 2147483648 : Nat) : Int) := by
  have : (2 : Int) ^ min (Int.toNat 31) 32 = 2147483648 := by decide
  rw [this, Int.fdiv_eq_ediv_of_nonneg _ (by decide)]; omega

/-! ### A step of a division -/

theorem setbit {q i : Nat} (h : q % 2 ^ (i + 1) = 0) : dig q (i / 32) / 2 ^ (i % 32) % 2 = 0 ∧ setD q (i / 32) (dig q (i / 32) + 2 ^ (i % 32)) = q + 2 ^ i ∧ dig q (i / 32) + 2 ^ (i % 32) < 4294967296 := by
  have hb : bitN q i = 0 := by
    unfold bitN
    have := Nat.mod_mul_right_div_self q (2 ^ i) 2
    rw [← Nat.pow_succ, h, Nat.zero_div] at this
    exact this.symm
  have h1 : dig q (i / 32) / 2 ^ (i % 32) % 2 = 0 := by rw [← bitN_dig]; exact hb
  refine ⟨h1, ?_, ?_⟩
  · have e := setD_add q (i / 32) (dig q (i / 32) + 2 ^ (i % 32))
    have e2 : 2 ^ i = 2 ^ (i % 32) * 4294967296 ^ (i / 32) := by
      rw [pw_two, ← Nat.pow_add]; congr 1; omega
    rw [e2]
    rw [Nat.add_mul] at e
    omega
  · rw [← or_add h1]
    exact Nat.or_lt_two_pow (n := 32) (dig_lt _ _) (Nat.pow_lt_pow_right (by decide) (Nat.mod_lt _ (by decide)))
theorem mod_half {q i : Nat} (h : q % 2 ^ (i + 1) = 0) : q % 2 ^ i = 0 ∧ q / 2 ^ i = 2 * (q / 2 ^ (i + 1)) := by
  have hm : 2 ^ (i + 1) = 2 ^ i * 2 := Nat.pow_succ ..
  obtain ⟨c, hc⟩ := Nat.dvd_of_mod_eq_zero h
  subst hc
  constructor
  · rw [hm, Nat.mul_assoc]; exact Nat.mul_mod_right _ _
  · rw [Nat.mul_div_cancel_left _ (p2_pos _), hm, Nat.mul_assoc, Nat.mul_div_cancel_left _ (p2_pos i)]
theorem div_step0 {a b q r i : Nat} (h : a / 2 ^ (i + 1) = q / 2 ^ (i + 1) * b + r) (hq : q % 2 ^ (i + 1) = 0) : a / 2 ^ i = q / 2 ^ i * b + (2 * r + bitN a i) := by
  rw [half_bit, h, (mod_half hq).2]
  grind
theorem div_step1 {a b q r i : Nat} (h : a / 2 ^ (i + 1) = q / 2 ^ (i + 1) * b + r) (hq : q % 2 ^ (i + 1) = 0) (hb : b ≤ 2 * r + bitN a i) : a / 2 ^ i = (q + 2 ^ i) / 2 ^ i * b + (2 * r + bitN a i - b) ∧ (q + 2 ^ i) % 2 ^ i = 0 := by
  rw [Nat.add_div_right _ (p2_pos i), Nat.add_mod_right]
  refine ⟨?_, (mod_half hq).1⟩
  have := div_step0 h hq
  rw [Nat.succ_mul]
  omega
theorem div_end {a b q r : Nat} (h : a / 2 ^ 0 = q / 2 ^ 0 * b + r) (hr : r < b) : q = a / b ∧ r = a % b := by
  simp only [Nat.pow_zero, Nat.div_one] at h
  have hb : 0 < b := by omega
  subst h
  rw [Nat.mul_comm, Nat.mul_add_div hb, Nat.mul_add_mod, Nat.div_eq_of_lt hr, Nat.mod_eq_of_lt hr]
  exact ⟨by omega, rfl⟩
end Go.Proofs.YtngccjllkgpjmaaGreat

/- Fractions, in plain Lean: a pair (n, d), d above 0, told by its lowest terms. -/
/- Fractions, in plain Lean: a pair (n, d), d above 0, told by its lowest terms. -/
set_option linter.all false
namespace Go.Proofs.YtngccjllkgpjmaaGreat
open Go Go.Vx

def fg (n : Int) (d : Nat) : Nat := Nat.gcd n.natAbs d
def rnum (n : Int) (d : Nat) : Nat := n.natAbs / fg n d
def rden (n : Int) (d : Nat) : Nat := d / fg n d
def nsg (neg : Bool) (a : Nat) : Int := if neg then -(a : Int) else a

theorem fg_pos {n : Int} {d : Nat} (hd : 0 < d) : 0 < fg n d := Nat.gcd_pos_of_pos_right _ hd
theorem rnum_mul (n : Int) (d : Nat) : rnum n d * fg n d = n.natAbs := Nat.div_mul_cancel (Nat.gcd_dvd_left _ _)
theorem rden_mul (n : Int) (d : Nat) : rden n d * fg n d = d := Nat.div_mul_cancel (Nat.gcd_dvd_right _ _)
theorem rden_pos {n : Int} {d : Nat} (hd : 0 < d) : 0 < rden n d := by
  have := rden_mul n d
  rcases Nat.eq_zero_or_pos (rden n d) with h | h
  · rw [h] at this; omega
  · exact h
theorem rnum_le (n : Int) (d : Nat) : rnum n d ≤ n.natAbs := Nat.div_le_self _ _
theorem rden_le (n : Int) (d : Nat) : rden n d ≤ d := Nat.div_le_self _ _
theorem r_coprime {n : Int} {d : Nat} (hd : 0 < d) : Nat.gcd (rnum n d) (rden n d) = 1 := by
  unfold rnum rden
  exact Nat.gcd_div_gcd_div_gcd_of_pos_right hd
theorem rnum_0 {n : Int} {d : Nat} (hd : 0 < d) : rnum n d = 0 ↔ n = 0 := by
  have := rnum_mul n d
  constructor
  · intro h; rw [h] at this; omega
  · rintro rfl; simp [rnum]
theorem rden_0 {d : Nat} (hd : 0 < d) : rden 0 d = 1 := by simp [rden, fg, Nat.div_self hd]
theorem n_eq (n : Int) (d : Nat) : n = nsg (decide (n < 0)) (rnum n d) * (fg n d : Int) := by
  have h := rnum_mul n d
  unfold nsg
  have h2 : ((rnum n d : Nat) : Int) * (fg n d : Int) = (n.natAbs : Int) := by exact_mod_cast h
  by_cases hn : n < 0
  · simp only [hn, decide_true, if_true]
    rw [Int.neg_mul, h2]; omega
  · simp only [hn, decide_false, Bool.false_eq_true, if_false]
    rw [h2]; omega
theorem d_eq (n : Int) (d : Nat) : (d : Int) = (rden n d : Int) * (fg n d : Int) := by exact_mod_cast (rden_mul n d).symm

/-- A fraction's terms do not tell by what it was widened. -/
theorem r_scale {n : Int} {d k : Nat} (hk : 0 < k) : rnum (n * k) (d * k) = rnum n d ∧ rden (n * k) (d * k) = rden n d ∧ (decide (n * (k : Int) < 0)) = decide (n < 0) := by
  have e : (n * (k : Int)).natAbs = n.natAbs * k := by rw [Int.natAbs_mul]; simp
  have g : fg (n * k) (d * k) = fg n d * k := by unfold fg; rw [e, Nat.gcd_mul_right]
  refine ⟨?_, ?_, ?_⟩
  · unfold rnum; rw [e, g, Nat.mul_div_mul_right _ _ hk]
  · unfold rden; rw [g, Nat.mul_div_mul_right _ _ hk]
  · congr 1
    apply propext
    constructor
    · intro h
      rcases Int.lt_or_le n 0 with h' | h'
      · exact h'
      · have := Int.mul_nonneg h' (Int.natCast_nonneg k); omega
    · intro h
      exact Int.mul_neg_of_neg_of_pos h (by omega)
theorem nsg_abs (neg : Bool) (a : Nat) : (nsg neg a).natAbs = a := by
  unfold nsg; split <;> omega
theorem nsg_neg (neg : Bool) (a : Nat) : decide (nsg neg a < 0) = (neg && decide (0 < a)) := by
  unfold nsg
  cases neg <;> simp <;> omega
/-! ### Operations -/

theorem q_mul {n1 n2 : Int} {d1 d2 : Nat} (h1 : 0 < d1) (h2 : 0 < d2) {m : Int} (hm : m = nsg (!(decide (n1 < 0) == decide (n2 < 0))) (rnum n1 d1 * rnum n2 d2)) :
    rnum m (rden n1 d1 * rden n2 d2) = rnum (n1 * n2) (d1 * d2) ∧ rden m (rden n1 d1 * rden n2 d2) = rden (n1 * n2) (d1 * d2) ∧ decide (m < 0) = decide (n1 * n2 < 0) := by
  have hk : 0 < fg n1 d1 * fg n2 d2 := Nat.mul_pos (fg_pos h1) (fg_pos h2)
  have en : n1 * n2 = m * ((fg n1 d1 * fg n2 d2 : Nat) : Int) := by
    have a1 := n_eq n1 d1
    have a2 := n_eq n2 d2
    rw [hm]
    conv => lhs; rw [a1, a2]
    generalize rnum n1 d1 = x
    generalize rnum n2 d2 = y
    generalize fg n1 d1 = g
    generalize fg n2 d2 = h
    unfold nsg
    cases decide (n1 < 0) <;> cases decide (n2 < 0) <;> simp <;> grind
  have ed : d1 * d2 = rden n1 d1 * rden n2 d2 * (fg n1 d1 * fg n2 d2) := by
    have a1 := rden_mul n1 d1
    have a2 := rden_mul n2 d2
    conv => lhs; rw [← a1, ← a2]
    grind
  have := @r_scale m (rden n1 d1 * rden n2 d2) _ hk
  rw [← en, ← ed] at this
  exact ⟨this.1.symm, this.2.1.symm, this.2.2.symm⟩

theorem q_div {n1 n2 : Int} {d1 d2 : Nat} (h1 : 0 < d1) (h2 : 0 < d2) (hn : n2 ≠ 0) {m : Int} (hm : m = nsg (!(decide (n1 < 0) == decide (n2 < 0))) (rnum n1 d1 * rden n2 d2)) :
    rnum m (rden n1 d1 * rnum n2 d2) = rnum (nsg (decide (n2 < 0)) 1 * n1 * d2) (d1 * n2.natAbs) ∧ rden m (rden n1 d1 * rnum n2 d2) = rden (nsg (decide (n2 < 0)) 1 * n1 * d2) (d1 * n2.natAbs) ∧ decide (m < 0) = decide (nsg (decide (n2 < 0)) 1 * n1 * d2 < 0) := by
  have hk : 0 < fg n1 d1 * fg n2 d2 := Nat.mul_pos (fg_pos h1) (fg_pos h2)
  have en : nsg (decide (n2 < 0)) 1 * n1 * d2 = m * ((fg n1 d1 * fg n2 d2 : Nat) : Int) := by
    have a1 := n_eq n1 d1
    have a2 := d_eq n2 d2
    rw [hm, a2]
    conv => lhs; rw [a1]
    generalize rnum n1 d1 = x
    generalize rden n2 d2 = y
    generalize fg n1 d1 = g
    generalize fg n2 d2 = h
    unfold nsg
    cases decide (n1 < 0) <;> cases decide (n2 < 0) <;> simp <;> grind
  have ed : d1 * n2.natAbs = rden n1 d1 * rnum n2 d2 * (fg n1 d1 * fg n2 d2) := by
    have a1 := rden_mul n1 d1
    have a2 := rnum_mul n2 d2
    rw [← a2]
    conv => lhs; rw [← a1]
    grind
  have := @r_scale m (rden n1 d1 * rnum n2 d2) _ hk
  rw [← en, ← ed] at this
  exact ⟨this.1.symm, this.2.1.symm, this.2.2.symm⟩

/-- The sum of two signed numbers, as it is computed. -/
def addM (s t : Bool) (x y : Nat) : Int := if s = t then nsg s (x + y) else if y ≤ x then nsg s (x - y) else nsg t (y - x)
theorem addM_eq (s t : Bool) (x y : Nat) : addM s t x y = nsg s x + nsg t y := by
  unfold addM nsg
  cases s <;> cases t <;> simp <;> (try split) <;> omega

theorem q_add {n1 n2 : Int} {d1 d2 : Nat} (h1 : 0 < d1) (h2 : 0 < d2) {m : Int} (hm : m = addM (decide (n1 < 0)) (decide (n2 < 0)) (rnum n1 d1 * rden n2 d2) (rnum n2 d2 * rden n1 d1)) :
    rnum m (rden n1 d1 * rden n2 d2) = rnum (n1 * d2 + n2 * d1) (d1 * d2) ∧ rden m (rden n1 d1 * rden n2 d2) = rden (n1 * d2 + n2 * d1) (d1 * d2) ∧ decide (m < 0) = decide (n1 * d2 + n2 * d1 < 0) := by
  have hk : 0 < fg n1 d1 * fg n2 d2 := Nat.mul_pos (fg_pos h1) (fg_pos h2)
  have en : n1 * d2 + n2 * d1 = m * ((fg n1 d1 * fg n2 d2 : Nat) : Int) := by
    have a1 := n_eq n1 d1
    have a2 := n_eq n2 d2
    have a3 := d_eq n1 d1
    have a4 := d_eq n2 d2
    rw [hm, addM_eq]
    suffices key : ∀ N1 N2 D1 D2 : Int, N1 = nsg (decide (n1 < 0)) (rnum n1 d1) * (fg n1 d1 : Int) → N2 = nsg (decide (n2 < 0)) (rnum n2 d2) * (fg n2 d2 : Int) → D1 = (rden n1 d1 : Int) * (fg n1 d1 : Int) → D2 = (rden n2 d2 : Int) * (fg n2 d2 : Int) →
        N1 * D2 + N2 * D1 = (nsg (decide (n1 < 0)) (rnum n1 d1 * rden n2 d2) + nsg (decide (n2 < 0)) (rnum n2 d2 * rden n1 d1)) * ((fg n1 d1 * fg n2 d2 : Nat) : Int) from key _ _ _ _ a1 a2 a3 a4
    clear a1 a2 a3 a4 hm hk
    rintro _ _ _ _ rfl rfl rfl rfl
    generalize rnum n1 d1 = x
    generalize rnum n2 d2 = y
    generalize rden n1 d1 = z
    generalize rden n2 d2 = w
    generalize fg n1 d1 = g
    generalize fg n2 d2 = h
    unfold nsg
    cases decide (n1 < 0) <;> cases decide (n2 < 0) <;> simp <;> grind
  have ed : d1 * d2 = rden n1 d1 * rden n2 d2 * (fg n1 d1 * fg n2 d2) := by
    have a1 := rden_mul n1 d1
    have a2 := rden_mul n2 d2
    conv => lhs; rw [← a1, ← a2]
    grind
  have := @r_scale m (rden n1 d1 * rden n2 d2) _ hk
  rw [← en, ← ed] at this
  exact ⟨this.1.symm, this.2.1.symm, this.2.2.symm⟩

/-- Comparison. -/
def cmpI (x y : Int) : Int := if x < y then -1 else if y < x then 1 else 0
def cmpQ (n1 : Int) (d1 : Nat) (n2 : Int) (d2 : Nat) : Int := cmpI (n1 * d2) (n2 * d1)
theorem mul_lt_iff {x y : Int} {k : Nat} (hk : 0 < k) : x * (k : Int) < y * (k : Int) ↔ x < y := by
  constructor
  · intro h
    rcases Int.lt_or_le x y with h' | h'
    · exact h'
    · have := Int.mul_le_mul_of_nonneg_right h' (Int.natCast_nonneg k); omega
  · intro h; exact Int.mul_lt_mul_of_pos_right h (by omega)
theorem q_cmp {n1 n2 : Int} {d1 d2 : Nat} (h1 : 0 < d1) (h2 : 0 < d2) : cmpQ n1 d1 n2 d2 = if n1 < 0 ∧ n2 < 0 then -(ordN (rnum n1 d1 * rden n2 d2) (rnum n2 d2 * rden n1 d1)) else if n1 < 0 then -1 else if n2 < 0 then 1 else ordN (rnum n1 d1 * rden n2 d2) (rnum n2 d2 * rden n1 d1) := by
  have hk : 0 < fg n1 d1 * fg n2 d2 := Nat.mul_pos (fg_pos h1) (fg_pos h2)
  have e1 : n1 * d2 = nsg (decide (n1 < 0)) (rnum n1 d1 * rden n2 d2) * ((fg n1 d1 * fg n2 d2 : Nat) : Int) := by
    have a1 := n_eq n1 d1
    have a4 := d_eq n2 d2
    rw [a4]
    conv => lhs; rw [a1]
    unfold nsg
    cases decide (n1 < 0) <;> simp <;> grind
  have e2 : n2 * d1 = nsg (decide (n2 < 0)) (rnum n2 d2 * rden n1 d1) * ((fg n1 d1 * fg n2 d2 : Nat) : Int) := by
    have a1 := n_eq n2 d2
    have a4 := d_eq n1 d1
    rw [a4]
    conv => lhs; rw [a1]
    unfold nsg
    cases decide (n2 < 0) <;> simp <;> grind
  have p1 : n1 < 0 → 0 < rnum n1 d1 * rden n2 d2 := fun h => Nat.mul_pos (Nat.pos_of_ne_zero fun h0 => by have := (rnum_0 h1).1 h0; omega) (rden_pos h2)
  have p2 : n2 < 0 → 0 < rnum n2 d2 * rden n1 d1 := fun h => Nat.mul_pos (Nat.pos_of_ne_zero fun h0 => by have := (rnum_0 h2).1 h0; omega) (rden_pos h1)
  unfold cmpQ cmpI
  rw [e1, e2]
  simp only [mul_lt_iff hk]
  generalize rnum n1 d1 * rden n2 d2 = x at *
  generalize rnum n2 d2 * rden n1 d1 = y at *
  unfold nsg ordN
  by_cases g1 : n1 < 0 <;> by_cases g2 : n2 < 0 <;> simp only [g1, g2, decide_true, decide_false, if_true, if_false, and_self, and_true, and_false, Bool.false_eq_true]
  · have := p1 g1; have := p2 g2
    repeat' split
    all_goals omega
  · have := p1 g1
    repeat' split
    all_goals omega
  · have := p2 g2
    repeat' split
    all_goals omega
  · repeat' split
    all_goals omega

/-- The whole number below a fraction, as it is computed. -/
def floorN (neg : Bool) (a b : Nat) : Nat := if neg && decide (a % b ≠ 0) then a / b + 1 else a / b
theorem q_floor {n : Int} {d : Nat} (hd : 0 < d) : n / (d : Int) = nsg (decide (n < 0)) (floorN (decide (n < 0)) (rnum n d) (rden n d)) := by
  have hg : 0 < fg n d := fg_pos hd
  have e : n / (d : Int) = nsg (decide (n < 0)) (rnum n d) / (rden n d : Int) := by
    have a1 := n_eq n d
    have a2 := d_eq n d
    suffices key : ∀ N D : Int, N = nsg (decide (n < 0)) (rnum n d) * (fg n d : Int) → D = (rden n d : Int) * (fg n d : Int) → N / D = nsg (decide (n < 0)) (rnum n d) / (rden n d : Int) from key _ _ a1 a2
    rintro _ _ rfl rfl
    exact Int.mul_ediv_mul_of_pos_left _ _ (show (0 : Int) < (fg n d : Int) by omega)
  rw [e]
  have hp := rden_pos (n := n) hd
  generalize rnum n d = a
  generalize rden n d = b at *
  have h1 := Nat.div_add_mod a b
  have h2 := Nat.mod_lt a hp
  unfold nsg floorN
  by_cases hn : n < 0
  · simp only [hn, decide_true, if_true, Bool.true_and, decide_eq_true_eq]
    by_cases h0 : a % b = 0
    · rw [if_neg (by omega)]
      have : (a : Int) = (a / b : Nat) * (b : Int) := by
        have : a = a / b * b := by rw [Nat.mul_comm]; omega
        exact_mod_cast this
      conv => lhs; rw [this, ← Int.neg_mul]
      rw [Int.mul_ediv_cancel _ (by omega)]
    · rw [if_pos (by omega)]
      apply Int.le_antisymm
      · apply Int.le_of_lt_add_one
        rw [Int.ediv_lt_iff_lt_mul (by omega)]
        have : (a : Int) = (b : Int) * (a / b : Nat) + (a % b : Nat) := by exact_mod_cast h1.symm
        rw [this]
        have hm : ((a % b : Nat) : Int) > 0 := by omega
        generalize (a % b) = m at *
        generalize (a / b) = q at *
        push_cast
        grind
      · rw [Int.le_ediv_iff_mul_le (by omega)]
        have : (a : Int) = (b : Int) * (a / b : Nat) + (a % b : Nat) := by exact_mod_cast h1.symm
        rw [this]
        have hm : ((a % b : Nat) : Int) < b := by omega
        generalize (a % b) = m at *
        generalize (a / b) = q at *
        push_cast
        grind
  · simp only [hn, decide_false, Bool.false_and, Bool.false_eq_true, if_false]
    exact_mod_cast rfl
end Go.Proofs.YtngccjllkgpjmaaGreat

/- Words of 64 bits, in plain Lean: products and quotients of two words. -/
/- Words of 64 bits, in plain Lean: products and quotients of two words. -/
set_option linter.all false
namespace Go.Proofs.YtngccjllkgpjmaaGreat
open Go Go.Vx

theorem ofInt_nat6 {x : Nat} (h : x < 18446744073709551616) : (BitVec.ofInt 64 (x : Int)).toNat = x := by
  simp [BitVec.toNat_ofInt]; omega
theorem and_mask {x : Nat} (h : x < 18446744073709551616) : IntKind.u64.wrap ((BitVec.ofInt 64 (x : Int) &&& BitVec.ofInt 64 4294967295).toNat : Int) = ((x % 4294967296 : Nat) : Int) := by
  have h2 : (BitVec.ofInt 64 4294967295).toNat = 2 ^ 32 - 1 := by decide
  rw [BitVec.toNat_and, ofInt_nat6 h, h2, Nat.and_two_pow_sub_one_eq_mod]
  exact u_nat (by omega)
theorem or_nat6 {x y : Nat} (hx : x < 18446744073709551616) (hy : y < 18446744073709551616) : IntKind.u64.wrap ((BitVec.ofInt 64 (x : Int) ||| BitVec.ofInt 64 (y : Int)).toNat : Int) = ((x ||| y : Nat) : Int) := by
  rw [BitVec.toNat_or, ofInt_nat6 hx, ofInt_nat6 hy]
  exact u_nat (Nat.or_lt_two_pow (n := 64) hx hy)
theorem shr_nat {x s : Nat} (hs : s ≤ 64) : (x : Int).fdiv (2 ^ min s 64) = ((x / 2 ^ s : Nat) : Int) := by
  rw [Nat.min_eq_left hs, Int.fdiv_eq_ediv_of_nonneg _ (Int.le_of_lt (Int.pow_pos (by decide)))]
  simp
theorem shl_nat {x s : Nat} (hs : s ≤ 64) (h : x * 2 ^ s < 18446744073709551616) : IntKind.u64.wrap ((x : Int) * 2 ^ min s 64) = ((x * 2 ^ s : Nat) : Int) := by
  rw [Nat.min_eq_left hs]
  have : (x : Int) * 2 ^ s = ((x * 2 ^ s : Nat) : Int) := by simp
  rw [this]; exact u_nat h
theorem u_mod (x : Int) : IntKind.u64.wrap x = x % 18446744073709551616 := by
  rw [IntKind.wrap_u64]
theorem u_modn (x : Nat) : IntKind.u64.wrap (x : Int) = ((x % 18446744073709551616 : Nat) : Int) := by
  rw [u_mod]; simp

/-- The higher word of a product. -/
theorem mul_hi {x y : Nat} (hx : x < 18446744073709551616) (hy : y < 18446744073709551616) :
    let x0 := x % 4294967296; let x1 := x / 4294967296; let y0 := y % 4294967296; let y1 := y / 4294967296
    let t := x1 * y0 + x0 * y0 / 4294967296
    let w1 := t % 4294967296 + x0 * y1
    x1 * y1 + t / 4294967296 + w1 / 4294967296 = x * y / 18446744073709551616 ∧ x0 * y0 < 18446744073709551616 ∧ x1 * y0 < 18446744073709551616 ∧ t < 18446744073709551616 ∧ x0 * y1 < 18446744073709551616 ∧ w1 < 18446744073709551616 ∧ x1 * y1 < 18446744073709551616 ∧ x1 * y1 + t / 4294967296 < 18446744073709551616 ∧ x1 * y1 + t / 4294967296 + w1 / 4294967296 < 18446744073709551616 := by
  intro x0 x1 y0 y1 t w1
  have e1 : x = 4294967296 * x1 + x0 := (Nat.div_add_mod x _).symm
  have e2 : y = 4294967296 * y1 + y0 := (Nat.div_add_mod y _).symm
  have h0 : x0 < 4294967296 := Nat.mod_lt _ (by decide)
  have h1 : y0 < 4294967296 := Nat.mod_lt _ (by decide)
  have h2 : x1 < 4294967296 := by omega
  have h3 : y1 < 4294967296 := by omega
  have m : ∀ {a b : Nat}, a < 4294967296 → b < 4294967296 → a * b ≤ 4294967295 * 4294967295 := fun ha hb => Nat.mul_le_mul (by omega) (by omega)
  have p1 := m h0 h1
  have p2 := m h2 h1
  have p3 := m h0 h3
  have p4 := m h2 h3
  have e : x * y = 18446744073709551616 * (x1 * y1) + 4294967296 * (x1 * y0 + x0 * y1) + x0 * y0 := by
    rw [e1, e2]; grind
  have ht : t = x1 * y0 + x0 * y0 / 4294967296 := rfl
  have hw : w1 = t % 4294967296 + x0 * y1 := rfl
  rw [e]
  generalize x0 * y0 = A at *
  generalize x1 * y0 = B at *
  generalize x0 * y1 = C at *
  generalize x1 * y1 = D at *
  omega

/-- What the loop finds: q is at least the digit; the rest fits. -/
structure DigInv (y1 y0 a u q r : Nat) : Prop where
  eq : q * y1 + r = a
  ge : (a * 4294967296 + u) / (y1 * 4294967296 + y0) ≤ q
  le : q ≤ 4294967297

theorem dig_iff {y1 y0 a u q r : Nat} (hy : 0 < y1) (h : q * y1 + r = a) : q * (y1 * 4294967296 + y0) ≤ a * 4294967296 + u ↔ q * y0 ≤ 4294967296 * r + u := by
  have e : q * (y1 * 4294967296 + y0) = q * y1 * 4294967296 + q * y0 := by grind
  rw [e, ← h]
  generalize q * y1 = A
  generalize q * y0 = B
  omega
theorem dig_start {y1 y0 a u : Nat} (h1 : 2147483648 ≤ y1) (h0 : y0 < 4294967296) (ha : a < y1 * 4294967296 + y0) (hu : u < 4294967296) : DigInv y1 y0 a u (a / y1) (a - a / y1 * y1) ∧ a - a / y1 * y1 < 4294967296 ∨ 4294967296 ≤ y1 := by
  rcases Nat.lt_or_ge y1 4294967296 with hy | hy
  · left
    have hp : 0 < y1 := by omega
    have e := Nat.div_add_mod a y1
    have hm := Nat.mod_lt a hp
    rw [Nat.mul_comm] at e
    refine ⟨⟨by omega, ?_, ?_⟩, by omega⟩
    · rw [← Nat.lt_add_one_iff, Nat.div_lt_iff_lt_mul (by omega)]
      have : (a / y1 + 1) * (y1 * 4294967296 + y0) = (a / y1 * y1 + y1) * 4294967296 + (a / y1 + 1) * y0 := by grind
      rw [this]
      have : (0 : Nat) ≤ (a / y1 + 1) * y0 := Nat.zero_le _
      omega
    · rw [← Nat.lt_add_one_iff, Nat.div_lt_iff_lt_mul hp]
      omega
  · exact .inr hy
/-- The digit is found. -/
theorem dig_end {y1 y0 a u q r : Nat} (h : DigInv y1 y0 a u q r) (hy : 0 < y1) (hle : q * y0 ≤ 4294967296 * r + u) : q = (a * 4294967296 + u) / (y1 * 4294967296 + y0) := by
  have h1 := (dig_iff (u := u) (y0 := y0) hy h.eq).2 hle
  have h2 := (Nat.le_div_iff_mul_le (by omega)).2 h1
  have := h.ge
  omega
theorem dig_next {y1 y0 a u q r : Nat} (h : DigInv y1 y0 a u q r) (hy : 0 < y1) (ha : a < y1 * 4294967296 + y0) (hu : u < 4294967296) (hc : 4294967296 ≤ q ∨ 4294967296 * r + u < q * y0) : 0 < q ∧ DigInv y1 y0 a u (q - 1) (r + y1) := by
  have hlt : (a * 4294967296 + u) / (y1 * 4294967296 + y0) < q := by
    rcases hc with hc | hc
    · have : (a * 4294967296 + u) / (y1 * 4294967296 + y0) < 4294967296 := by
        rw [Nat.div_lt_iff_lt_mul (by omega)]; omega
      exact Nat.lt_of_lt_of_le this hc
    · rw [Nat.div_lt_iff_lt_mul (by omega)]
      refine Nat.lt_of_not_le fun hh => ?_
      have := (dig_iff (u := u) (y0 := y0) hy h.eq).1 hh
      omega
  have h1 := h.eq
  have h2 := h.le
  have hq : 0 < q := Nat.lt_of_le_of_lt (Nat.zero_le _) hlt
  refine ⟨hq, ⟨?_, by omega, by omega⟩⟩
  obtain ⟨m, rfl⟩ : ∃ m, q = m + 1 := ⟨q - 1, by omega⟩
  rw [Nat.add_sub_cancel]
  rw [Nat.succ_mul] at h1
  omega
theorem dig_break {y1 y0 a u q r : Nat} (h : DigInv y1 y0 a u q r) (hy : 0 < y1) (h0 : y0 < 4294967296) (hq : q ≤ 4294967296) (hr : 4294967296 ≤ r) : q = (a * 4294967296 + u) / (y1 * 4294967296 + y0) := by
  refine dig_end h hy ?_
  have : q * y0 ≤ 4294967296 * 4294967295 := Nat.mul_le_mul hq (by omega)
  omega

/-- Two digits: the quotient and the rest. -/
theorem two_digits' {M y a u1 u0 q1 r1 q0 r0 : Nat} (hy : 0 < y) (hq1 : q1 = (a * M + u1) / y) (hr1 : r1 = (a * M + u1) % y) (hq0 : q0 = (r1 * M + u0) / y) (hr0 : r0 = (r1 * M + u0) % y) :
    q1 * M + q0 = (a * (M * M) + (u1 * M + u0)) / y ∧ r0 = (a * (M * M) + (u1 * M + u0)) % y := by
  have e1 := Nat.div_add_mod (a * M + u1) y
  have e2 := Nat.div_add_mod (r1 * M + u0) y
  have hm := Nat.mod_lt (r1 * M + u0) hy
  rw [← hq1, ← hr1] at e1
  rw [← hq0, ← hr0] at e2
  rw [← hr0] at hm
  have e3 : a * (M * M) + (u1 * M + u0) = y * (q1 * M + q0) + r0 := by
    have : a * (M * M) + (u1 * M + u0) = (a * M + u1) * M + u0 := by grind
    rw [this, ← e1]
    have : (y * q1 + r1) * M + u0 = y * q1 * M + (r1 * M + u0) := by grind
    rw [this, ← e2]
    grind
  rw [e3, Nat.mul_add_div hy, Nat.div_eq_of_lt hm, Nat.mul_add_mod, Nat.mod_eq_of_lt hm]
  exact ⟨rfl, rfl⟩
theorem two_digits {y a u1 u0 q1 q0 r1 : Nat} (hy : 0 < y) (hq1 : q1 = (a * 4294967296 + u1) / y) (hr1 : r1 = (a * 4294967296 + u1) % y) (hq0 : q0 = (r1 * 4294967296 + u0) / y) :
    q1 * 4294967296 + q0 = (a * 18446744073709551616 + (u1 * 4294967296 + u0)) / y ∧ (r1 * 4294967296 + u0) % y = (a * 18446744073709551616 + (u1 * 4294967296 + u0)) % y :=
  two_digits' (M := 4294967296) hy hq1 hr1 hq0 rfl

/-! ### The two words, shifted -/

theorem norm_facts {y : Nat} (hy : y < 18446744073709551616) (h0 : 0 < y) : bitsN y ≤ 64 ∧ 9223372036854775808 ≤ y * 2 ^ (64 - bitsN y) ∧ y * 2 ^ (64 - bitsN y) < 18446744073709551616 := by
  have hb : bitsN y ≤ 64 := bitsN_le.2 hy
  have hpos : 0 < bitsN y := Nat.pos_of_ne_zero fun h => by have := bitsN_eq0.1 h; omega
  have h1 := bitsN_lt y
  have h2 : 2 ^ (bitsN y - 1) ≤ y := by
    rcases Nat.lt_or_ge y (2 ^ (bitsN y - 1)) with h | h
    · have := bitsN_le.2 h; omega
    · exact h
  refine ⟨hb, ?_, ?_⟩
  · have : 2 ^ (bitsN y - 1) * 2 ^ (64 - bitsN y) ≤ y * 2 ^ (64 - bitsN y) := Nat.mul_le_mul_right _ h2
    rw [← Nat.pow_add, show bitsN y - 1 + (64 - bitsN y) = 63 by omega] at this
    exact this
  · have : y * 2 ^ (64 - bitsN y) < 2 ^ bitsN y * 2 ^ (64 - bitsN y) := Nat.mul_lt_mul_of_pos_right h1 (p2_pos _)
    rw [← Nat.pow_add, show bitsN y + (64 - bitsN y) = 64 by omega] at this
    exact this
theorem hi_shift {h x s : Nat} (hs : s ≤ 64) (hx : x < 18446744073709551616) : (h * 2 ^ s ||| x / 2 ^ (64 - s)) = h * 2 ^ s + x / 2 ^ (64 - s) ∧ x / 2 ^ (64 - s) < 2 ^ s ∧ (h * 2 ^ s + x / 2 ^ (64 - s)) * 18446744073709551616 + x * 2 ^ s % 18446744073709551616 = (h * 18446744073709551616 + x) * 2 ^ s := by
  have e : (18446744073709551616 : Nat) = 2 ^ (64 - s) * 2 ^ s := by rw [← Nat.pow_add, show 64 - s + s = 64 by omega]
  have hl : x / 2 ^ (64 - s) < 2 ^ s := by
    rw [Nat.div_lt_iff_lt_mul (p2_pos _), Nat.mul_comm, ← e]; exact hx
  refine ⟨?_, hl, ?_⟩
  · rw [Nat.mul_comm h]; exact (Nat.two_pow_add_eq_or_of_lt hl h).symm
  · have h1 := Nat.div_add_mod x (2 ^ (64 - s))
    have e2 : x * 2 ^ s % 18446744073709551616 = x % 2 ^ (64 - s) * 2 ^ s := by
      rw [e]; exact Nat.mul_mod_mul_right _ _ _
    rw [e2, e]
    generalize 2 ^ (64 - s) = P at *
    generalize 2 ^ s = R at *
    generalize x / P = a at *
    generalize x % P = b at *
    subst h1
    grind

end Go.Proofs.YtngccjllkgpjmaaGreat

/- Intervals, in plain Lean: what spans and its reference compute. -/
/- Intervals, in plain Lean: what spans and its reference compute. -/
set_option linter.all false
namespace Go.Proofs.YtngccjllkgpjmaaGreat
open Go Go.Vx

abbrev Iv := Int × Int
def numOk (x : Int) : Bool := decide (-4611686018427387904 ≤ x) && decide (x ≤ 4611686018427387904)
def ivE (l : List Iv) : Int := if l.all (fun a => numOk a.1 && numOk a.2) then (if l.all (fun a => decide (a.1 ≤ a.2)) then 0 else 2) else 7

theorem ivE_bad {l : List Iv} {i : Nat} (h : i < l.length) (hb : (numOk (l.getD i default).1 && numOk (l.getD i default).2) = false) : ivE l = 7 := by
  rw [ivE, if_neg]
  intro hall
  have := List.all_eq_true.1 hall _ (getD_mem h)
  rw [hb] at this; cases this
theorem ivE_2 {l : List Iv} (ha : ∀ j, j < l.length → (numOk (l.getD j default).1 && numOk (l.getD j default).2) = true) {i : Nat} (h : i < l.length) (hb : (l.getD i default).2 < (l.getD i default).1) : ivE l = 2 := by
  rw [ivE, if_pos, if_neg]
  · intro hall
    have := List.all_eq_true.1 hall _ (getD_mem h)
    simp only [decide_eq_true_eq] at this; omega
  · refine List.all_eq_true.2 fun x hx => ?_
    obtain ⟨j, hj, rfl⟩ := mem_getD hx
    exact ha j hj
theorem ivE_0 {l : List Iv} (ha : ∀ j, j < l.length → (numOk (l.getD j default).1 && numOk (l.getD j default).2) = true) (hb : ∀ j, j < l.length → (l.getD j default).1 ≤ (l.getD j default).2) : ivE l = 0 := by
  rw [ivE, if_pos, if_pos]
  · refine List.all_eq_true.2 fun x hx => ?_
    obtain ⟨j, hj, rfl⟩ := mem_getD hx
    simpa using hb j hj
  · refine List.all_eq_true.2 fun x hx => ?_
    obtain ⟨j, hj, rfl⟩ := mem_getD hx
    exact ha j hj
theorem numOk_iff {x : Int} : numOk x = true ↔ -4611686018427387904 ≤ x ∧ x ≤ 4611686018427387904 := by
  simp [numOk]
theorem ivE1 {a : Iv} (h : ivE [a] = 0) : (-4611686018427387904 ≤ a.1 ∧ a.1 ≤ 4611686018427387904) ∧ (-4611686018427387904 ≤ a.2 ∧ a.2 ≤ 4611686018427387904) ∧ a.1 ≤ a.2 := by
  unfold ivE at h
  split at h
  · rename_i h1
    split at h
    · rename_i h2
      simp only [List.all_cons, List.all_nil, Bool.and_true, Bool.and_eq_true, decide_eq_true_eq] at h1 h2
      exact ⟨numOk_iff.1 h1.1, numOk_iff.1 h1.2, h2⟩
    · cases h
  · cases h
theorem ivE2 {a b : Iv} (h : ivE [a, b] = 0) : ((-4611686018427387904 ≤ a.1 ∧ a.1 ≤ 4611686018427387904) ∧ (-4611686018427387904 ≤ a.2 ∧ a.2 ≤ 4611686018427387904) ∧ a.1 ≤ a.2) ∧ (-4611686018427387904 ≤ b.1 ∧ b.1 ≤ 4611686018427387904) ∧ (-4611686018427387904 ≤ b.2 ∧ b.2 ≤ 4611686018427387904) ∧ b.1 ≤ b.2 := by
  unfold ivE at h
  split at h
  · rename_i h1
    split at h
    · rename_i h2
      simp only [List.all_cons, List.all_nil, Bool.and_true, Bool.and_eq_true, decide_eq_true_eq] at h1 h2
      exact ⟨⟨numOk_iff.1 h1.1.1, numOk_iff.1 h1.1.2, h2.1⟩, numOk_iff.1 h1.2.1, numOk_iff.1 h1.2.2, h2.2⟩
    · cases h
  · cases h

/-- A quotient, rounded down or up, if it is a bound. -/
def rndT (up : Bool) (x d : Int) : Int := if up then -((-x) / d) else x / d
def rndB (t : Int) : Int × Bool := if -4611686018427387904 ≤ t ∧ t ≤ 4611686018427387904 then (t, true) else (0, false)
def rndF (up : Bool) (x d : Int) : Int × Bool := rndB (rndT up x d)
def spanR (a b : Int × Bool) : Iv × Int := if a.2 && b.2 then ((a.1, b.1), 0) else ((0, 0), 7)
def lowI (x : Int) (r : List Int) : Int := r.foldl (fun low y => if y < low then y else low) x
def highI (x : Int) (r : List Int) : Int := r.foldl (fun high y => if high < y then y else high) x
/-- The span of the least and the greatest one of some products, divided. -/
def spanI (d : Int) (x : Int) (r : List Int) : Iv × Int := spanR (rndF false (lowI x r) d) (rndF true (highI x r) d)

theorem lowI_spec (x : Int) : ∀ (r : List Int), lowI x r ∈ x :: r ∧ ∀ y ∈ x :: r, lowI x r ≤ y := by
  intro r
  induction r generalizing x with
  | nil => exact ⟨List.mem_cons_self, fun y hy => by simp at hy; subst hy; exact Int.le_refl _⟩
  | cons a r ih =>
    have e : lowI x (a :: r) = lowI (if a < x then a else x) r := rfl
    rw [e]
    obtain ⟨h1, h2⟩ := ih (if a < x then a else x)
    have h3 := h2 _ List.mem_cons_self
    generalize lowI (if a < x then a else x) r = L at *
    refine ⟨?_, fun y hy => ?_⟩
    · rcases List.mem_cons.1 h1 with h | h
      · rw [h]; split <;> simp
      · simp [h]
    · rcases List.mem_cons.1 hy with rfl | hy
      · split at h3 <;> omega
      · rcases List.mem_cons.1 hy with rfl | hy
        · split at h3 <;> omega
        · exact h2 _ (List.mem_cons_of_mem _ hy)
theorem highI_spec (x : Int) : ∀ (r : List Int), highI x r ∈ x :: r ∧ ∀ y ∈ x :: r, y ≤ highI x r := by
  intro r
  induction r generalizing x with
  | nil => exact ⟨List.mem_cons_self, fun y hy => by simp at hy; subst hy; exact Int.le_refl _⟩
  | cons a r ih =>
    have e : highI x (a :: r) = highI (if x < a then a else x) r := rfl
    rw [e]
    obtain ⟨h1, h2⟩ := ih (if x < a then a else x)
    have h3 := h2 _ List.mem_cons_self
    generalize highI (if x < a then a else x) r = L at *
    refine ⟨?_, fun y hy => ?_⟩
    · rcases List.mem_cons.1 h1 with h | h
      · rw [h]; split <;> simp
      · simp [h]
    · rcases List.mem_cons.1 hy with rfl | hy
      · split at h3 <;> omega
      · rcases List.mem_cons.1 hy with rfl | hy
        · split at h3 <;> omega
        · exact h2 _ (List.mem_cons_of_mem _ hy)

/-- How a rounded quotient is computed by absolute values. -/
def bump (up neg : Bool) (r : Nat) : Nat := if decide (r ≠ 0) && (up != neg) then 1 else 0
theorem rnd_abs {up : Bool} {x : Int} {d : Nat} (hd : 0 < d) : rndT up x d = nsg (decide (x < 0)) (x.natAbs / d + bump up (decide (x < 0)) (x.natAbs % d)) := by
  have hm := Nat.mod_lt x.natAbs hd
  have e := Nat.div_add_mod x.natAbs d
  have pos : ∀ n : Nat, (n : Int) / (d : Int) = ((n / d : Nat) : Int) := fun n => (Int.natCast_ediv n d).symm
  have neg : ∀ n : Nat, (-(n : Int)) / (d : Int) = -(((n / d + if n % d = 0 then 0 else 1 : Nat)) : Int) := fun n => by
    have e := Nat.div_add_mod n d
    have hm := Nat.mod_lt n hd
    by_cases h0 : n % d = 0
    · rw [if_pos h0]
      have : (n : Int) = ((n / d : Nat) : Int) * (d : Int) := by
        have : n = n / d * d := by rw [Nat.mul_comm]; omega
        exact_mod_cast this
      conv => lhs; rw [this, ← Int.neg_mul]
      rw [Int.mul_ediv_cancel _ (by omega)]; simp
    · rw [if_neg h0]
      have hq : (n : Int) = (d : Int) * ((n / d : Nat) : Int) + ((n % d : Nat) : Int) := by exact_mod_cast e.symm
      apply Int.le_antisymm
      · apply Int.le_of_lt_add_one
        rw [Int.ediv_lt_iff_lt_mul (by omega)]
        conv => lhs; rw [hq]
        have hm : ((n % d : Nat) : Int) > 0 := by omega
        generalize n % d = m at *
        generalize n / d = q at *
        push_cast
        grind
      · rw [Int.le_ediv_iff_mul_le (by omega)]
        conv => rhs; rw [hq]
        have hm : ((n % d : Nat) : Int) < d := by omega
        generalize n % d = m at *
        generalize n / d = q at *
        push_cast
        grind
  obtain ⟨n, hn⟩ : ∃ n : Nat, n = x.natAbs := ⟨_, rfl⟩
  rw [← hn]
  unfold rndT bump nsg
  by_cases hx : x < 0
  · have ex : x = -(n : Int) := by omega
    cases up
    · simp only [hx, decide_true, if_true, Bool.false_eq_true, if_false]
      rw [ex, neg n]
      by_cases h0 : n % d = 0 <;> simp [h0]
    · simp only [hx, decide_true, if_true, bne_self_eq_false, Bool.and_false, Bool.false_eq_true, if_false]
      rw [ex, Int.neg_neg, pos n]; simp
  · have ex : x = (n : Int) := by omega
    cases up
    · simp only [hx, decide_false, Bool.false_eq_true, if_false, bne_self_eq_false, Bool.and_false]
      rw [ex, pos n]; simp
    · simp only [hx, decide_false, Bool.false_eq_true, if_false, if_true]
      rw [ex, neg n]
      by_cases h0 : n % d = 0 <;> simp [h0]

/-! ### Products of two words -/

def longE (v : Int) : List SV := [.bool (decide (v < 0)), .int .u64 ((v.natAbs / 18446744073709551616 : Nat) : Int), .int .u64 ((v.natAbs % 18446744073709551616 : Nat) : Int)]
def longP (x : Int) (n : Bool) (h l : Int) : Prop := n = decide (x < 0) ∧ h = ((x.natAbs / 18446744073709551616 : Nat) : Int) ∧ l = ((x.natAbs % 18446744073709551616 : Nat) : Int)
theorem longP_self (x : Int) : longP x (decide (x < 0)) ((x.natAbs / 18446744073709551616 : Nat) : Int) ((x.natAbs % 18446744073709551616 : Nat) : Int) := ⟨rfl, rfl, rfl⟩
def big (x : Int) : Prop := x.natAbs < 340282366920938463463374607431768211456

/-! ### What the functions return -/

def fitF (lo hi : Int) : Iv × Int := if numOk lo && numOk hi then ((lo, hi), 0) else ((0, 0), 7)
def errI (e : Int) : Iv × Int := ((0, 0), e)
def addF (a b : Iv) : Iv × Int := if ivE [a, b] ≠ 0 then errI (ivE [a, b]) else fitF (a.1 + b.1) (a.2 + b.2)
def divPos (a b : Iv) : Iv × Int := spanR (rndF false a.1 (if a.1 < 0 then b.1 else b.2)) (rndF true a.2 (if a.2 < 0 then b.2 else b.1))
def sclF (a : Iv) (num den : Int) : Iv × Int := if ivE [a] ≠ 0 then errI (ivE [a]) else if den < 1 ∨ 4611686018427387904 < den ∨ num < -4611686018427387904 ∨ 4611686018427387904 < num then errI 2 else spanI den (a.1 * num) [a.2 * num]
/-- The greatest number whose power is not above n. -/
def rootN (n k : Nat) : Nat := leastF (fun r => decide (n < (r + 1) ^ k)) (n + 1) 0
def rootUp (n k : Nat) : Nat := if rootN n k ^ k < n then rootN n k + 1 else rootN n k
def rootF (a : Iv) (k : Int) : Iv × Int := if ivE [a] ≠ 0 then errI (ivE [a]) else if k < 1 ∨ 62 < k then errI 2 else if a.1 < 0 then errI 9 else (((rootN a.1.toNat k.toNat : Int), (rootUp a.2.toNat k.toNat : Int)), 0)
def discN (up : Bool) (n : Int) : Int × Bool := rndF up (n * n * (if up then 3141592653589793239 else 3141592653589793238)) 4000000000000000000
def discF (a : Iv) : Iv × Int := if ivE [a] ≠ 0 then errI (ivE [a]) else if a.1 < 0 then errI 9 else spanR (discN false a.1) (discN true a.2)

theorem rootN_eq {n k r : Nat} (hk : 0 < k) (h1 : r ^ k ≤ n) (h2 : n < (r + 1) ^ k) : rootN n k = r := by
  unfold rootN
  have hr : r ≤ n := Nat.le_trans (by
    cases r with
    | zero => exact Nat.zero_le _
    | succ r => exact Nat.le_trans (Nat.le_of_eq (Nat.pow_one _).symm) (Nat.pow_le_pow_right (by omega) hk)) h1
  refine leastF_eq (fun j hj => ?_) (by omega) fun _ => decide_eq_true h2
  refine decide_eq_false ?_
  have := Nat.pow_le_pow_left (show j + 1 ≤ r by omega) k
  omega
theorem rootN_spec {n k : Nat} (hk : 0 < k) : rootN n k ^ k ≤ n ∧ n < (rootN n k + 1) ^ k := by
  have ex : ∀ m : Nat, ∃ r, r ^ k ≤ m ∧ m < (r + 1) ^ k := by
    intro m
    induction m with
    | zero => exact ⟨0, by rw [Nat.zero_pow hk]; omega, by simp⟩
    | succ m ih =>
      obtain ⟨r, h1, h2⟩ := ih
      rcases Nat.lt_or_ge (m + 1) ((r + 1) ^ k) with h | h
      · exact ⟨r, by omega, h⟩
      · refine ⟨r + 1, h, ?_⟩
        have : (r + 1) ^ k < (r + 1 + 1) ^ k := Nat.pow_lt_pow_left (by omega) (by omega)
        omega
  obtain ⟨r, h1, h2⟩ := ex n
  rw [rootN_eq hk h1 h2]
  exact ⟨h1, h2⟩
end Go.Proofs.YtngccjllkgpjmaaGreat

/- Chests, in plain Lean: what the program and its reference compute; sizes. -/
/- Chests, in plain Lean: what the program and its reference compute; sizes. -/
set_option linter.all false
namespace Go.Proofs.YtngccjllkgpjmaaGreat
open Go Go.Vx

structure Plt where
  w : Int
  l : Int
  t : Int
  s : Int
instance : Inhabited Plt := ⟨⟨0, 0, 0, 0⟩⟩
structure Wsh where
  per : Int
  pr : Int
  most : Int
def outN (n lo hi : Int) : Bool := decide (n < lo) || decide (hi < n)
theorem outN_f {n lo hi : Int} : outN n lo hi = false ↔ lo ≤ n ∧ n ≤ hi := by simp [outN]
def toeB (t : Iv) : Bool := outN t.1 100 100000 || outN t.2 100 1000
def palB (p : Plt) : Bool := outN p.w 1000 100000 || outN p.l 10000 1000000 || outN p.t 500 30000 || outN p.s 0 10000000
def discI (b : Int) : Iv := (discF (b, b)).1
def areaF (l : List Iv) : Iv := l.foldl (fun s t => (s.1 + (discI t.1).1, s.2 + (discI t.1).2)) (0, 0)
def chkT (l : List Iv) : Int := if 24 < l.length then 3 else if l.any toeB then 2 else 0
def openF (p : Plt) : Int := min (p.w * p.l) (p.t * (p.w + p.l))
def sclI (p : Plt) (pr : Int) : Iv := (sclF (p.w * p.l, p.w * p.l) pr 1000000).1
def forceF (p : Plt) (pr : Int) : Iv := ((sclI p pr).1 + p.s, (sclI p pr).2 + p.s)
def cmpF (a : Iv) (o per : Int) : Int := if per * a.2 ≤ 100 * o then 1 else if 100 * o < per * a.1 then -1 else 0
def sumO (l : List Plt) : Int := l.foldl (fun s p => s + openF p) 0
def enoF (c : List Iv) (l : List Plt) (per : Int) : Int × Int :=
  if (decide (chkT c = 3) || decide (40 < l.length)) = true then (0, 3) else if (!decide (chkT c = 0) || l.any palB || outN per 10 1000) = true then (0, 2) else (cmpF (areaF c) (sumO l) per, 0)
def wshB (w : Wsh) : Bool := outN w.per 10 1000 || outN w.pr 10 5000 || outN w.most 0 1000000000

/-! ### The best choice -/

structure Cnd where
  ids : List Int
  hv : Int
  op : Int
  wt : Int
abbrev Bst := List Int × Int
def tryF (a : Iv) (w : Wsh) (b : Bst) (c : Cnd) : Bst :=
  if w.most < c.hv ∨ cmpF a c.op w.per ≠ 1 then b else if b.1 = [] ∨ c.wt < b.2 then (c.ids, c.wt) else b
def fh (p : Plt) (pr : Int) : Int := (forceF p pr).2
def cand1 (w : Wsh) (l : List Plt) (i : Nat) : Cnd := ⟨[(i : Int)], fh (l.getD i default) w.pr, openF (l.getD i default), fh (l.getD i default) w.pr⟩
def cand2 (w : Wsh) (l : List Plt) (i k : Nat) : Cnd := ⟨[(i : Int), (k : Int)], max (fh (l.getD i default) w.pr) (fh (l.getD k default) w.pr), openF (l.getD i default) + openF (l.getD k default), fh (l.getD i default) w.pr + fh (l.getD k default) w.pr⟩
def ones1 (a : Iv) (w : Wsh) (l : List Plt) : Nat → Bst
  | 0 => ([], 0)
  | i + 1 => tryF a w (ones1 a w l i) (cand1 w l i)
def row2 (a : Iv) (w : Wsh) (l : List Plt) (i : Nat) (b : Bst) : Nat → Bst
  | 0 => b
  | d + 1 => tryF a w (row2 a w l i b d) (cand2 w l i (i + d))
def twos (a : Iv) (w : Wsh) (l : List Plt) (b : Bst) : Nat → Bst
  | 0 => b
  | i + 1 => row2 a w l i (twos a w l b i) (l.length - i)
def bestF (a : Iv) (w : Wsh) (l : List Plt) : List Int :=
  if (ones1 a w l l.length).1 ≠ [] then (ones1 a w l l.length).1 else (twos a w l (ones1 a w l l.length) l.length).1
def choF (c : List Iv) (l : List Plt) (w : Wsh) : List Int × Int :=
  if (decide (chkT c = 3) || decide (40 < l.length)) = true then ([], 3) else if (!decide (chkT c = 0) || (l.any palB || wshB w)) = true then ([], 2) else if bestF (areaF c) w l ≠ [] then (bestF (areaF c) w l, 0) else ([], 4)

/-! ### Sizes -/

theorem discN_up {n : Int} (h0 : 0 ≤ n) (h1 : n ≤ 100000) (up : Bool) : (discN up n).2 = true ∧ 0 ≤ (discN up n).1 ∧ (discN up n).1 ≤ 10000000000 ∧ (discN up n).1 = rndT up (n * n * (if up then 3141592653589793239 else 3141592653589793238)) 4000000000000000000 := by
  unfold discN rndF rndB
  have hn : n * n ≤ 10000000000 := mul_le' h1 h1 h0 (by omega)
  have hn0 : 0 ≤ n * n := Int.mul_nonneg h0 h0
  have hr : 0 ≤ rndT up (n * n * (if up then 3141592653589793239 else 3141592653589793238)) 4000000000000000000 ∧ rndT up (n * n * (if up then 3141592653589793239 else 3141592653589793238)) 4000000000000000000 ≤ 10000000000 := by
    generalize n * n = m at *
    cases up
    · simp only [rndT, Bool.false_eq_true, if_false]
      omega
    · simp only [rndT, if_true]
      omega
  rw [if_pos (by omega)]
  exact ⟨rfl, hr.1, hr.2, rfl⟩
theorem toe_rng {t : Iv} (h : toeB t = false) : 100 ≤ t.1 ∧ t.1 ≤ 100000 ∧ 100 ≤ t.2 ∧ t.2 ≤ 1000 := by
  unfold toeB at h
  rw [Bool.or_eq_false_iff, outN_f, outN_f] at h; omega
theorem pal_rng {p : Plt} (h : palB p = false) : (1000 ≤ p.w ∧ p.w ≤ 100000) ∧ (10000 ≤ p.l ∧ p.l ≤ 1000000) ∧ (500 ≤ p.t ∧ p.t ≤ 30000) ∧ 0 ≤ p.s ∧ p.s ≤ 10000000 := by
  unfold palB at h
  rw [Bool.or_eq_false_iff, Bool.or_eq_false_iff, Bool.or_eq_false_iff, outN_f, outN_f, outN_f, outN_f] at h
  exact ⟨h.1.1.1, h.1.1.2, h.1.2, h.2⟩
theorem disc_one {b : Int} (h0 : 0 ≤ b) (h1 : b ≤ 100000) : discF (b, b) = (((discN false b).1, (discN true b).1), 0) := by
  have h2 : ivE [(b, b)] = 0 := by
    unfold ivE
    rw [if_pos (by simp [numOk]; omega), if_pos (by simp)]
  unfold discF
  rw [if_neg (by rw [h2]; simp), if_neg (by show ¬ b < 0; omega)]
  simp only [spanR, (discN_up h0 h1 false).1, (discN_up h0 h1 true).1, Bool.and_self, if_true]
theorem discI_rng {b : Int} (h0 : 0 ≤ b) (h1 : b ≤ 100000) : 0 ≤ (discI b).1 ∧ (discI b).1 ≤ 10000000000 ∧ 0 ≤ (discI b).2 ∧ (discI b).2 ≤ 10000000000 := by
  unfold discI
  rw [disc_one h0 h1]
  exact ⟨(discN_up h0 h1 false).2.1, (discN_up h0 h1 false).2.2.1, (discN_up h0 h1 true).2.1, (discN_up h0 h1 true).2.2.1⟩
theorem discI_le {b : Int} (h0 : 0 ≤ b) (h1 : b ≤ 100000) : (discI b).1 ≤ (discI b).2 := by
  unfold discI
  rw [disc_one h0 h1]
  show (discN false b).1 ≤ (discN true b).1
  rw [(discN_up h0 h1 false).2.2.2, (discN_up h0 h1 true).2.2.2]
  have hn0 : 0 ≤ b * b := Int.mul_nonneg h0 h0
  generalize b * b = m at *
  simp only [rndT, Bool.false_eq_true, if_false, if_true]
  omega
theorem area_take {l : List Iv} {i : Nat} (h : i < l.length) : areaF (l.take (i + 1)) = ((areaF (l.take i)).1 + (discI (l.getD i default).1).1, (areaF (l.take i)).2 + (discI (l.getD i default).1).2) := by
  unfold areaF
  rw [foldl_take_succ h]
theorem area_rng {l : List Iv} : ∀ {i : Nat}, i ≤ l.length → (∀ t ∈ l, toeB t = false) → 0 ≤ (areaF (l.take i)).1 ∧ (areaF (l.take i)).1 ≤ 10000000000 * i ∧ 0 ≤ (areaF (l.take i)).2 ∧ (areaF (l.take i)).2 ≤ 10000000000 * i ∧ (areaF (l.take i)).1 ≤ (areaF (l.take i)).2
  | 0, _, _ => by simp [areaF]
  | i + 1, h, hl => by
    rw [area_take (by omega)]
    have ih := area_rng (i := i) (by omega) hl
    have ht := toe_rng (hl _ (getD_mem (by omega : i < l.length)))
    have hd := discI_rng (b := (l.getD i default).1) (by omega) (by omega)
    have hd2 := discI_le (b := (l.getD i default).1) (by omega) (by omega)
    simp only
    omega
theorem open_rng {p : Plt} (h : palB p = false) : 0 ≤ openF p ∧ openF p ≤ 100000000000 ∧ (0 ≤ p.w * p.l ∧ p.w * p.l ≤ 100000000000) ∧ 0 ≤ p.t * (p.w + p.l) ∧ p.t * (p.w + p.l) ≤ 33000000000 := by
  obtain ⟨h1, h2, h3, h4⟩ := pal_rng h
  have e1 : p.w * p.l ≤ 100000 * 1000000 := mul_le' h1.2 h2.2 (by omega) (by omega)
  have e2 : 0 ≤ p.w * p.l := Int.mul_nonneg (by omega) (by omega)
  have e3 : p.t * (p.w + p.l) ≤ 30000 * 1100000 := mul_le' h3.2 (by omega) (by omega) (by omega)
  have e4 : 0 ≤ p.t * (p.w + p.l) := Int.mul_nonneg (by omega) (by omega)
  unfold openF
  omega
theorem sumO_take {l : List Plt} {i : Nat} (h : i < l.length) : sumO (l.take (i + 1)) = sumO (l.take i) + openF (l.getD i default) := by
  unfold sumO
  rw [foldl_take_succ h]
theorem sumO_rng {l : List Plt} : ∀ {i : Nat}, i ≤ l.length → (∀ t ∈ l, palB t = false) → 0 ≤ sumO (l.take i) ∧ sumO (l.take i) ≤ 100000000000 * i
  | 0, _, _ => by simp [sumO]
  | i + 1, h, hl => by
    rw [sumO_take (by omega)]
    have ih := sumO_rng (i := i) (by omega) hl
    have ht := open_rng (hl _ (getD_mem (by omega : i < l.length)))
    omega
theorem scl_one {p : Plt} {pr : Int} (h : palB p = false) (h1 : 10 ≤ pr) (h2 : pr ≤ 5000) :
    sclF (p.w * p.l, p.w * p.l) pr 1000000 = ((p.w * p.l * pr / 1000000, -(-(p.w * p.l * pr) / 1000000)), 0) ∧ 0 ≤ p.w * p.l * pr ∧ p.w * p.l * pr ≤ 500000000000000 := by
  obtain ⟨_, _, ⟨h3, h4⟩, _⟩ := open_rng h
  have e1 : p.w * p.l * pr ≤ 100000000000 * 5000 := mul_le' h4 h2 h3 (by omega)
  have e2 : 0 ≤ p.w * p.l * pr := Int.mul_nonneg h3 (by omega)
  generalize p.w * p.l = m at *
  have h5 : ivE [(m, m)] = 0 := by
    unfold ivE
    rw [if_pos (by simp [numOk]; omega), if_pos (by simp)]
  unfold sclF
  rw [if_neg (by rw [h5]; simp), if_neg (by omega)]
  generalize m * pr = x at *
  refine ⟨?_, e2, e1⟩
  simp only [spanI, lowI, highI, List.foldl_cons, List.foldl_nil, Int.lt_irrefl, if_false, rndF, rndB, rndT, Bool.false_eq_true, if_true]
  rw [if_pos (by omega), if_pos (by omega)]
  simp [spanR]
theorem force_rng {p : Plt} {pr : Int} (h : palB p = false) (h1 : 10 ≤ pr) (h2 : pr ≤ 5000) : (0 ≤ (sclI p pr).1 ∧ (sclI p pr).1 ≤ 500000000) ∧ (0 ≤ (sclI p pr).2 ∧ (sclI p pr).2 ≤ 500000000) ∧ (sclI p pr).1 ≤ (sclI p pr).2 ∧ 0 ≤ fh p pr ∧ fh p pr ≤ 510000000 := by
  obtain ⟨e, e1, e2⟩ := scl_one h h1 h2
  obtain ⟨_, _, _, hs⟩ := pal_rng h
  unfold fh forceF sclI
  rw [e]
  simp only
  generalize p.w * p.l * pr = x at *
  omega
end Go.Proofs.YtngccjllkgpjmaaGreat

/- Numbers by limbs, walked: limb, trim, Of, Order, Plus, Minus. -/
/- Numbers by limbs, walked: limb, trim, Of, Order, Plus, Minus. -/
set_option linter.all false
namespace Go.Proofs.YtngccjllkgpjmaaGreat
open Go Go.Vx
set_option maxRecDepth 100000
set_option maxHeartbeats 4000000

def v100 : VF := { ntmps := 14, res := [.tmp 4], body :=
 (.seq (.region [u1 4 .mov [.cn (.int .u64 0)]])
 (.seq (.seq (.region [u1 5 .mov [.tm 1],
 u1 6 .mov [.tm 0],
 u1 7 .len [.tm 6],
 u1 8 (.cmp .lss) [.tm 5, .tm 7]])
 (.cond (.tm 8) (.seq (.region [u1 9 .mov [.tm 0],
 u1 10 .mov [.tm 1],
 u1 11 (.idxAddr 1) [.tm 9, .tm 10],
 u1 12 (.load false 1) [.tm 11],
 u1 13 (.conv .u64) [.tm 12],
 u1 4 .mov [.tm 13]])
 .ret)
  .skip))
 (.seq (.region [u1 4 .mov [.cn (.int .u64 0)]])
 .ret))) }
theorem v100_is : vfunc Tryz.prog Tryz.f100 = some v100 := by kernel_rfl
def v99 : VF := { ntmps := 23, res := [.tmp 2], body :=
 (.seq (.region [u1 2 .mov [.cn .nil]])
 (.seq (.region [u1 4 .mov [.tm 0],
 u1 5 .len [.tm 4],
 u1 3 .mov [.tm 5]])
 (.seq (.block 0 (.loop (.seq (.seq (.region [u1 6 .mov [.tm 3],
 u1 7 (.cmp .gtr) [.tm 6, .cn (.int .i64 0)],
 u1 8 .mov [.tm 7],
 u2 9 8 true .mov [.tm 0],
 u2 10 8 true .mov [.tm 3],
 u2 11 8 true (.ari .sub) [.tm 10, .cn (.int .i64 1)],
 u2 12 8 true (.idxAddr 1) [.tm 9, .tm 11],
 u2 13 8 true (.load false 1) [.tm 12],
 u2 14 8 true (.cmp .eql) [.tm 13, .cn (.int .u32 0)],
 u1 15 .and [.tm 8, .tm 14]])
 (.cond (.tm 15) .skip
  (.exit 0)))
 (.block 1 (.region [u1 16 .mov [.tm 3],
 u1 17 (.ari .sub) [.tm 16, .cn (.int .i64 1)],
 u1 3 .mov [.tm 17]])))))
 (.seq (.region [u1 18 (.buildSlice 1 0 [(.int .u32 0)] []) [],
 u1 19 .mov [.tm 0],
 u1 20 .mov [.tm 3],
 u1 21 (.slice 1 false true) [.tm 19, .tm 20],
 u1 22 (.append 1 4 [(.int .u32 0)]) [.tm 18, .tm 21],
 u1 2 .mov [.tm 22]])
 .ret)))) }
theorem v99_is : vfunc Tryz.prog Tryz.f99 = some v99 := by kernel_rfl
def v68 : VF := { ntmps := 11, res := [.tmp 2], body :=
 (.seq (.region [u1 2 .mov [.cn .nil]])
 (.seq (.region [u1 3 .mov [.tm 0],
 u1 4 .rem [.tm 3, .cn (.int .u64 4294967296)],
 u1 5 (.conv .u32) [.tm 4],
 u1 6 .mov [.tm 0],
 u1 7 .quo [.tm 6, .cn (.int .u64 4294967296)],
 u1 8 (.conv .u32) [.tm 7],
 u1 9 (.buildSlice 1 2 [(.int .u32 0)] [(0, 1), (1, 1)]) [.tm 5, .tm 8],
 u1 10 (.call 99) [.tm 9],
 u1 2 .mov [.tm 10]])
 .ret)) }
theorem v68_is : vfunc Tryz.prog Tryz.f68 = some v68 := by kernel_rfl
def v71 : VF := { ntmps := 30, res := [.tmp 4], body :=
 (.seq (.region [u1 4 .mov [.cn (.int .i64 0)]])
 (.seq (.seq (.region [u1 6 .mov [.tm 0],
 u1 7 .len [.tm 6],
 u1 8 .mov [.tm 1],
 u1 9 .len [.tm 8],
 u1 10 .max [.tm 7, .tm 9],
 u1 11 (.ari .sub) [.tm 10, .cn (.int .i64 1)],
 u1 5 .mov [.tm 11]])
 (.block 0 (.loop (.seq (.seq (.region [u1 12 .mov [.tm 5],
 u1 13 (.cmp .geq) [.tm 12, .cn (.int .i64 0)]])
 (.cond (.tm 13) .skip
  (.exit 0)))
 (.seq (.block 1 (.seq (.seq (.region [u1 16 .mov [.tm 0],
 u1 17 .mov [.tm 5],
 u1 18 (.call 100) [.tm 16, .tm 17],
 u1 19 .mov [.tm 1],
 u1 20 .mov [.tm 5],
 u1 21 (.call 100) [.tm 19, .tm 20],
 u1 22 (.cmp .lss) [.tm 18, .tm 21]])
 (.cond (.tm 22) (.seq (.region [u1 4 .mov [.cn (.int .i64 (-1))]])
 .ret)
  .skip))
 (.seq (.region [u1 23 .mov [.tm 0],
 u1 24 .mov [.tm 5],
 u1 25 (.call 100) [.tm 23, .tm 24],
 u1 26 .mov [.tm 1],
 u1 27 .mov [.tm 5],
 u1 28 (.call 100) [.tm 26, .tm 27],
 u1 29 (.cmp .gtr) [.tm 25, .tm 28]])
 (.cond (.tm 29) (.seq (.region [u1 4 .mov [.cn (.int .i64 1)]])
 .ret)
  .skip))))
 (.region [u1 14 .mov [.tm 5],
 u1 15 (.ari .sub) [.tm 14, .cn (.int .i64 1)],
 u1 5 .mov [.tm 15]]))))))
 (.seq (.region [u1 4 .mov [.cn (.int .i64 0)]])
 .ret))) }
theorem v71_is : vfunc Tryz.prog Tryz.f71 = some v71 := by kernel_rfl
def v97 : VF := { ntmps := 38, res := [.tmp 4], body :=
 (.seq (.region [u1 4 .mov [.cn .nil]])
 (.seq (.region [u1 5 .mov [.cn .nil]])
 (.seq (.region [u1 6 .mov [.cn (.int .u64 0)]])
 (.seq (.seq (.region [u1 7 .mov [.cn (.int .i64 0)]])
 (.block 0 (.loop (.seq (.seq (.region [u1 9 .mov [.tm 7],
 u1 10 .mov [.tm 0],
 u1 11 .len [.tm 10],
 u1 12 .mov [.tm 1],
 u1 13 .len [.tm 12],
 u1 14 .max [.tm 11, .tm 13],
 u1 15 (.ari .add) [.tm 14, .cn (.int .i64 1)],
 u1 16 (.cmp .lss) [.tm 9, .tm 15]])
 (.cond (.tm 16) .skip
  (.exit 0)))
 (.seq (.block 1 (.seq (.region [u1 19 .mov [.tm 0],
 u1 20 .mov [.tm 7],
 u1 21 (.call 100) [.tm 19, .tm 20],
 u1 22 .mov [.tm 1],
 u1 23 .mov [.tm 7],
 u1 24 (.call 100) [.tm 22, .tm 23],
 u1 25 (.ari .add) [.tm 21, .tm 24],
 u1 26 .mov [.tm 6],
 u1 27 (.ari .add) [.tm 25, .tm 26],
 u1 8 .mov [.tm 27]])
 (.seq (.region [u1 28 .mov [.tm 5],
 u1 29 .mov [.tm 8],
 u1 30 .rem [.tm 29, .cn (.int .u64 4294967296)],
 u1 31 (.conv .u32) [.tm 30],
 u1 32 (.buildSlice 1 1 [(.int .u32 0)] [(0, 1)]) [.tm 31],
 u1 33 (.append 1 4 [(.int .u32 0)]) [.tm 28, .tm 32],
 u1 5 .mov [.tm 33]])
 (.region [u1 34 .mov [.tm 8],
 u1 35 .quo [.tm 34, .cn (.int .u64 4294967296)],
 u1 6 .mov [.tm 35]]))))
 (.region [u1 17 .mov [.tm 7],
 u1 18 (.ari .add) [.tm 17, .cn (.int .i64 1)],
 u1 7 .mov [.tm 18]]))))))
 (.seq (.region [u1 36 .mov [.tm 5],
 u1 37 (.call 99) [.tm 36],
 u1 4 .mov [.tm 37]])
 .ret))))) }
theorem v97_is : vfunc Tryz.prog Tryz.f97 = some v97 := by kernel_rfl


/-- A number came in by n limbs. -/
def padP (a n sz : Nat) (get : Nat → List SV) : Prop := sz = 1 ∧ n ≤ 100000 ∧ a < 4294967296 ^ n ∧ ∀ k, k < n → leXL (get k) [.int .u32 (dig a k)]
theorem padP_self {a n : Nat} (hn : n ≤ 100000) (ha : a < 4294967296 ^ n) : padP a n 1 (fun k => [.int .u32 (dig a k)]) := ⟨rfl, hn, ha, fun k _ => leXL_self _⟩
theorem padP_nl {a : Nat} (hn : nl a ≤ 100000) : padP a (nl a) 1 (fun k => [.int .u32 (dig a k)]) := padP_self hn (nl_lt a)
theorem padP_0 {a sz : Nat} {get : Nat → List SV} (h : padP a 0 sz get) : a = 0 := by
  have := h.2.2.1
  simp at this; omega

def natS (z : Bool) (a : Nat) : SV := .vs true z (nl a) 1 (fun k => [.int .u32 (dig a k)])

def limbC : Ctr := { alias := false, of := fun l => match l with
  | [.vs _ _ n sz get, .int .i64 i] => .ex Nat fun a => .pre (padP a n sz get ∧ 0 ≤ i) (.fin (.int .u64 (dig a i.toNat)) [])
  | _ => noC }
def trimC : Ctr := { alias := false, of := fun l => match l with
  | [.vs _ _ n sz get] => .ex Nat fun a => .pre (padP a n sz get) (.fin (natS false a) [])
  | _ => noC }

theorem own_nat {hp : List HO} {i n m : Nat} {z zz : Bool} {get : Nat → List SV} {a : Nat} (hn : n = nl a) (hz : z = zz) (hi : getH hp i = .own z 1 m get) (hg : ∀ j, j < n → get j = [.int .u32 (dig a j)]) :
    le 0 0 (expo hp (.own i 0 n 1)) (natS zz a) := by
  have e : expo hp (.own i 0 n 1) = .vs true z n 1 (fun k => viewN true hp 2 (get (addLo 0 k))) := by
    show view true hp (viewN true hp 2) (.own i 0 n 1) = _
    unfold view
    rw [hi]; rfl
  rw [e]
  unfold natS
  rw [le_vs]
  refine ⟨id, hz, hn, rfl, fun j hj => ?_⟩
  show leXL (viewN true hp 2 (get j)) _
  rw [hg j hj]
  exact leXL_self _
theorem ans_nat {k : SV → List HO → Prop} {al : Bool} {hp : List HO} {i n m : Nat} {z zz : Bool} {get : Nat → List SV} {a : Nat} (h : k (natS zz a) []) (hn : n = nl a) (hz : z = zz) (hi : getH hp i = .own z 1 m get) (hg : ∀ j, j < n → get j = [.int .u32 (dig a j)]) :
    answers al k (.own i 0 n 1) hp := ans_le h (own_nat hn hz hi hg) (fun _ => by simp [natS, freshS, freshL])

theorem ans_natS {k : SV → List HO → Prop} {al : Bool} {hp : List HO} {t z : Bool} {a : Nat} (h : k (natS z a) []) : answers al k (.vs true z (nl a) 1 (fun k => [.int .u32 (dig a k)])) hp :=
  ans_le h (le_self _ trivial) (fun _ => by simp [natS, freshS, freshL])

def R0 : Env := { ct := fun _ => none, fn := fun _ => none, meth := fun _ _ => none }
theorem R0_ok : EnvOk Tryz.prog R0 := by
  refine ⟨fun f c h => ?_, fun f vf h => ?_, (fun _ _ _ h => by cases h), by kernel_rfl⟩
  · cases h
  · cases h


theorem limb_ok : limbC.ok Tryz.prog 100 := by
  refine contract Tryz.func100 v100_is R0_ok 100 limbC fun args k h => ?_
  simp only [limbC] at h
  split at h
  · rename_i tt z n sz get i
    obtain ⟨a, ⟨⟨rfl, hn, ha, hg⟩, hi⟩, h⟩ := h
    refine ⟨[.vs tt z n 1 (fun k => [.int .u32 (dig a k)]), .int .i64 i], by simpa [leL, le] using hg, ?_⟩
    (try dsimp only [v100, go_sem, Option.bind, Option.map, List.append_nil, Nat.beq, List.cons_append, List.nil_append, List.append_eq, List.map_cons, List.map_nil, ite_self, reduceIte])
    (try simp only [true_and, and_true, imp_self, implies_true, decide_eq_true_eq, decide_eq_false_iff_not, Nat.reduceAdd, Nat.reduceLeDiff, Bool.not_not, reduceCtorEq, false_imp_iff, Bool.not_eq_true', Bool.not_eq_false', Bool.false_eq_true, and_self, forall_const, ne_eq, not_false_eq_true, Nat.reduceEqDiff])
    refine ⟨fun hlt => ⟨⟨hi, hlt⟩, ans_int ?_⟩, fun hge => ans_int ?_⟩
    · rw [u_nat (Nat.lt_trans (dig_lt _ _) (by decide))]; exact h
    · rw [dig_big ha (by omega)] at h; exact h
  · exact h.1.elim

theorem trim_ok : trimC.ok Tryz.prog 99 := by
  refine contract Tryz.func99 v99_is R0_ok 200 trimC fun args k h => ?_
  simp only [trimC] at h
  split at h
  · rename_i tt z n sz get
    obtain ⟨a, ⟨rfl, hn, ha, hg⟩, h⟩ := h
    refine ⟨[.vs tt z n 1 (fun k => [.int .u32 (dig a k)])], by simpa [leL, le] using hg, ?_⟩
    (try dsimp only [v99, go_sem, Option.bind, Option.map, List.append_nil, Nat.beq, List.cons_append, List.nil_append, List.append_eq, List.map_cons, List.map_nil, ite_self, reduceIte])
    (try simp only [true_and, and_true, imp_self, implies_true, decide_eq_true_eq, decide_eq_false_iff_not, Nat.reduceAdd, Nat.reduceLeDiff, Bool.not_not, reduceCtorEq, false_imp_iff, Bool.not_eq_true', Bool.not_eq_false', Bool.false_eq_true, and_self, forall_const, ne_eq, not_false_eq_true, Nat.reduceEqDiff])
    refine Loop.keep [0, 2] Nat (fun j => [(3, .int .i64 j)]) (fun _ => []) [] (fun j => j ≤ n ∧ a < 4294967296 ^ j) (fun j => j) ?_ ?_
    · refine ⟨n, ⟨Nat.le_refl _, ha⟩, ?_⟩
      (try dsimp only [go_sem, Option.bind, Option.map, List.append_nil, Nat.beq, List.cons_append, List.nil_append, List.append_eq, List.map_cons, List.map_nil, ite_self, reduceIte])
      simp only [leS_mk, leL_cons, leL_nil, le_junk, le_int, le_bool, le_nil, leLL_nil, leLL_cons, leH_cons, leH_nil, leH1_box, leH1_own, leH1_gone, le_vs, le_agg, le_tup, le_ptr, le_own, le_xp, le_fn, le_opt, le_val, le_elem, le_nil_own, le_nil_vs, leH_ghost, leL_chunk, leXL_id, bnd_int, bnd_bool, bnd_val, bnd_nil, bnd_junk, bnd_vs, bnd_xp, bnd_agg, bnd_tup, bnd_ptr, bnd_own, bnd_elem, bnd_fn, bnd_iface, bnd_opt, bndL_nil, bndL_cons, lenH_cons, lenH_nil, imp_self, implies_true, true_and, and_true]
    · rintro j ⟨hj, haj⟩
      (try dsimp only [Int.toNat_natCast, go_sem, Option.bind, Option.map, List.append_nil, Nat.beq, List.cons_append, List.nil_append, List.append_eq, List.map_cons, List.map_nil, ite_self, reduceIte])
      (try simp only [true_and, and_true, imp_self, implies_true, decide_eq_true_eq, decide_eq_false_iff_not, Nat.reduceAdd, Nat.reduceLeDiff, Bool.not_not, reduceCtorEq, false_imp_iff, Bool.not_eq_true', Bool.not_eq_false', Bool.false_eq_true, and_self, forall_const, ne_eq, not_false_eq_true, Nat.reduceEqDiff])
      refine ⟨fun hlt => ?_, fun hb => ?_, fun hb => ?_⟩
      · rw [w_pred (by omega) (by omega)]; omega
      · rw [Bool.and_eq_true, decide_eq_true_eq, decide_eq_true_eq] at hb
        obtain ⟨h1, h2⟩ := hb
        rw [w_pred (by omega) (by omega), Int.toNat_natCast] at h2
        refine ⟨j - 1, ⟨by omega, ?_⟩, by omega, ?_⟩
        · obtain ⟨m, rfl⟩ : ∃ m, j = m + 1 := ⟨j - 1, by omega⟩
          exact lt_trim haj (by simp at h2; exact_mod_cast h2)
        · rw [w_pred (by omega) (by omega)]
          simp only [leS_mk, leL_cons, leL_nil, le_junk, le_int, le_bool, le_nil, leLL_nil, leLL_cons, leH_cons, leH_nil, leH1_box, leH1_own, leH1_gone, le_vs, le_agg, le_tup, le_ptr, le_own, le_xp, le_fn, le_opt, le_val, le_elem, le_nil_own, le_nil_vs, leH_ghost, leL_chunk, leXL_id, bnd_int, bnd_bool, bnd_val, bnd_nil, bnd_junk, bnd_vs, bnd_xp, bnd_agg, bnd_tup, bnd_ptr, bnd_own, bnd_elem, bnd_fn, bnd_iface, bnd_opt, bndL_nil, bndL_cons, lenH_cons, lenH_nil, imp_self, implies_true, true_and, and_true] <;> simp
      · have e : nl a = j := by
          refine nl_trim haj ?_
          rw [Bool.and_eq_false_iff, decide_eq_false_iff_not, decide_eq_false_iff_not] at hb
          rcases Nat.eq_zero_or_pos j with h0 | h0
          · exact .inl h0
          · refine .inr fun hh => hb.elim (fun h => h (by omega)) fun h => h ?_
            rw [w_pred h0 (by omega), Int.toNat_natCast, hh]; rfl
        subst e
        (try dsimp only [Int.toNat_natCast, go_sem, Option.bind, Option.map, List.append_nil, Nat.beq, List.cons_append, List.nil_append, List.append_eq, List.map_cons, List.map_nil, ite_self, reduceIte])
        (try simp only [true_and, and_true, imp_self, implies_true, decide_eq_true_eq, decide_eq_false_iff_not, Nat.reduceAdd, Nat.reduceLeDiff, Bool.not_not, reduceCtorEq, false_imp_iff, Bool.not_eq_true', Bool.not_eq_false', Bool.false_eq_true, and_self, forall_const, ne_eq, not_false_eq_true, Nat.reduceEqDiff])
        refine ⟨by decide, ⟨by omega, by omega⟩, by unfold capOk; omega, ans_nat h (Nat.zero_add _) ?_ rfl fun j hj => ?_⟩
        · rfl
        · rw [if_neg (Nat.not_lt_zero _)]; rfl
  · exact h.1.elim
def ofC : Ctr := { alias := false, of := fun l => match l with
  | [.int .u64 n] => .pre (0 ≤ n ∧ n < 18446744073709551616) (.fin (natS false n.toNat) [])
  | _ => noC }
def orderC : Ctr := { alias := false, of := fun l => match l with
  | [.vs _ _ n sz get, .vs _ _ m sz' get'] => .ex Nat fun a => .ex Nat fun b => .pre (padP a n sz get ∧ padP b m sz' get') (.fin (.int .i64 (ordN a b)) [])
  | _ => noC }
def plusC : Ctr := { alias := false, of := fun l => match l with
  | [.vs _ _ n sz get, .vs _ _ m sz' get'] => .ex Nat fun a => .ex Nat fun b => .pre (padP a n sz get ∧ padP b m sz' get' ∧ n ≤ 99999 ∧ m ≤ 99999) (.fin (natS false (a + b)) [])
  | _ => noC }

def R1 : Env := { ct := fun n => match n with | 100 => some limbC | 99 => some trimC | _ => none, fn := fun _ => none, meth := fun _ _ => none }
theorem R1_ct100 : R1.ct 100 = some limbC := rfl
theorem R1_ct99 : R1.ct 99 = some trimC := rfl
theorem R1_ok : EnvOk Tryz.prog R1 := by
  refine ⟨fun f c h => ?_, fun f vf h => ?_, (fun _ _ _ h => by cases h), by kernel_rfl⟩
  · simp only [R1] at h
    split at h
    · cases h; exact ⟨limb_ok, Tryz.f100, Tryz.func100, by kernel_rfl, by kernel_rfl⟩
    · cases h; exact ⟨trim_ok, Tryz.f99, Tryz.func99, by kernel_rfl, by kernel_rfl⟩
    · cases h
  · cases h


theorem of_pad (n : Nat) (h : n < 18446744073709551616) : padP n 2 1 fun k => viewL false [HO.own false 1 2 (chunk 1 [SV.int .u32 (IntKind.u32.wrap ((n : Int).tmod 4294967296)), SV.int .u32 (IntKind.u32.wrap (IntKind.u64.wrap ((n : Int).tdiv 4294967296)))])]
    (fun x => viewL false [HO.own false 1 2 (chunk 1 [SV.int .u32 (IntKind.u32.wrap ((n : Int).tmod 4294967296)), SV.int .u32 (IntKind.u32.wrap (IntKind.u64.wrap ((n : Int).tdiv 4294967296)))])] (fun x => junks x) x)
    (takeL 1 (dropL (k * 1) [SV.int .u32 (IntKind.u32.wrap ((n : Int).tmod 4294967296)), SV.int .u32 (IntKind.u32.wrap (IntKind.u64.wrap ((n : Int).tdiv 4294967296)))])) := by
  refine ⟨rfl, by decide, by omega, fun k hk => ?_⟩
  have h0 : dig n 0 = n % 4294967296 := dig_0 n
  have h1 : dig n 1 = n / 4294967296 := by rw [dig_succ, dig_0]; omega
  match k, hk with
  | 0, _ => rw [h0, u3_rem]; exact leXL_self _
  | 1, _ => rw [h1, u_quo h, u3_nat (by omega)]; exact leXL_self _

theorem of_ok : ofC.ok Tryz.prog 68 := by
  refine contract Tryz.func68 v68_is R1_ok 200 ofC fun args k h => ?_
  simp only [ofC] at h
  split at h
  · rename_i n
    obtain ⟨⟨h0, h1⟩, h⟩ := h
    obtain ⟨n, rfl⟩ := Int.eq_ofNat_of_zero_le h0
    refine ⟨[.int .u64 n], by simp [leL, le], ?_⟩
    (try dsimp only [v68, R1_ct99, trimC, natS, go_sem, Option.bind, Option.map, List.append_nil, Nat.beq, List.cons_append, List.nil_append, List.append_eq, List.map_cons, List.map_nil, ite_self, reduceIte])
    (try simp only [true_and, and_true, imp_self, implies_true, decide_eq_true_eq, decide_eq_false_iff_not, Nat.reduceAdd, Nat.reduceLeDiff, Bool.not_not, reduceCtorEq, false_imp_iff, Bool.not_eq_true', Bool.not_eq_false', Bool.false_eq_true, and_self, forall_const, ne_eq, not_false_eq_true, Nat.reduceEqDiff])
    refine ⟨by decide, by decide, by decide, n, of_pad n (by omega), ?_⟩
    exact ans_natS (t := true) h
  · exact h.1.elim

theorem order_ok : orderC.ok Tryz.prog 71 := by
  refine contract Tryz.func71 v71_is R1_ok 200 orderC fun args k h => ?_
  simp only [orderC] at h
  split at h
  · rename_i t1 z1 n sz get t2 z2 m sz' get'
    obtain ⟨a, b, ⟨⟨rfl, hn, ha, hg⟩, rfl, hm, hb, hg'⟩, h⟩ := h
    refine ⟨[.vs t1 z1 n 1 (fun k => [.int .u32 (dig a k)]), .vs t2 z2 m 1 (fun k => [.int .u32 (dig b k)])], ⟨by simpa [le] using hg, by simpa [le] using hg', trivial⟩, ?_⟩
    (try dsimp only [v71, R1_ct100, limbC, go_sem, Option.bind, Option.map, List.append_nil, Nat.beq, List.cons_append, List.nil_append, List.append_eq, List.map_cons, List.map_nil, ite_self, reduceIte])
    (try simp only [true_and, and_true, imp_self, implies_true, decide_eq_true_eq, decide_eq_false_iff_not, Nat.reduceAdd, Nat.reduceLeDiff, Bool.not_not, reduceCtorEq, false_imp_iff, Bool.not_eq_true', Bool.not_eq_false', Bool.false_eq_true, and_self, forall_const, ne_eq, not_false_eq_true, Nat.reduceEqDiff])
    refine Loop.keep [0, 0, 3] Nat (fun j => [(5, .int .i64 ((j : Int) - 1))]) (fun _ => []) [] (fun j => j ≤ 100000 ∧ ∀ i, j ≤ i → dig a i = dig b i) (fun j => j) ?_ ?_
    · refine ⟨max n m, ⟨by omega, fun i hi => by rw [dig_big ha (by omega), dig_big hb (by omega)]⟩, ?_⟩
      (try dsimp only [go_sem, Option.bind, Option.map, List.append_nil, Nat.beq, List.cons_append, List.nil_append, List.append_eq, List.map_cons, List.map_nil, ite_self, reduceIte])
      simp only [leS_mk, leL_cons, leL_nil, le_junk, le_int, le_bool, le_nil, leLL_nil, leLL_cons, leH_cons, leH_nil, leH1_box, leH1_own, leH1_gone, le_vs, le_agg, le_tup, le_ptr, le_own, le_xp, le_fn, le_opt, le_val, le_elem, le_nil_own, le_nil_vs, leH_ghost, leL_chunk, leXL_id, bnd_int, bnd_bool, bnd_val, bnd_nil, bnd_junk, bnd_vs, bnd_xp, bnd_agg, bnd_tup, bnd_ptr, bnd_own, bnd_elem, bnd_fn, bnd_iface, bnd_opt, bndL_nil, bndL_cons, lenH_cons, lenH_nil, imp_self, implies_true, true_and, and_true]
      rw [IntWalk.i64_in _ (by omega)]
      simp <;> omega
    · rintro j ⟨hj, haj⟩
      (try dsimp only [R1_ct100, limbC, go_sem, Option.bind, Option.map, List.append_nil, Nat.beq, List.cons_append, List.nil_append, List.append_eq, List.map_cons, List.map_nil, ite_self, reduceIte])
      (try simp only [true_and, and_true, imp_self, implies_true, decide_eq_true_eq, decide_eq_false_iff_not, Nat.reduceAdd, Nat.reduceLeDiff, Bool.not_not, reduceCtorEq, false_imp_iff, Bool.not_eq_true', Bool.not_eq_false', Bool.false_eq_true, and_self, forall_const, ne_eq, not_false_eq_true, Nat.reduceEqDiff])
      refine ⟨fun hlt => ?_, fun hge => ?_⟩
      · obtain ⟨i, rfl⟩ : ∃ i, j = i + 1 := ⟨j - 1, by omega⟩
        have e : ((i + 1 : Nat) : Int) - 1 = i := by omega
        have gt : ∀ t, i < t → dig a t = dig b t := fun t ht => haj t (by omega)
        rw [e]
        simp only [Int.toNat_natCast]
        refine ⟨a, ⟨padP_self hn ha, by omega⟩, b, ⟨padP_self hm hb, by omega⟩, fun hc => ans_int ?_, fun hc => ⟨a, ⟨padP_self hn ha, by omega⟩, b, ⟨padP_self hm hb, by omega⟩, fun hd => ans_int ?_, fun hd => ?_⟩⟩
        · have := dig_cmp gt (by omega : dig a i < dig b i)
          rw [ordN, if_pos this] at h; exact h
        · have := dig_cmp (fun t ht => (gt t ht).symm) (by omega : dig b i < dig a i)
          rw [ordN, if_neg (by omega), if_pos this] at h; exact h
        · refine ⟨i, ⟨by omega, fun t ht => ?_⟩, by omega, ?_⟩
          · rcases Nat.eq_or_lt_of_le ht with rfl | ht
            · omega
            · exact gt t ht
          · simp only [leS_mk, leL_cons, leL_nil, le_junk, le_int, le_bool, le_nil, leLL_nil, leLL_cons, leH_cons, leH_nil, leH1_box, leH1_own, leH1_gone, le_vs, le_agg, le_tup, le_ptr, le_own, le_xp, le_fn, le_opt, le_val, le_elem, le_nil_own, le_nil_vs, leH_ghost, leL_chunk, leXL_id, bnd_int, bnd_bool, bnd_val, bnd_nil, bnd_junk, bnd_vs, bnd_xp, bnd_agg, bnd_tup, bnd_ptr, bnd_own, bnd_elem, bnd_fn, bnd_iface, bnd_opt, bndL_nil, bndL_cons, lenH_cons, lenH_nil, imp_self, implies_true, true_and, and_true]
            rw [IntWalk.i64_in _ (by omega)]
      · obtain rfl : j = 0 := by omega
        have : a = b := dig_all fun i => haj i (Nat.zero_le _)
        rw [ordN, if_neg (by omega), if_neg (by omega)] at h
        exact ans_int h
  · exact h.1.elim

theorem plus_ok : plusC.ok Tryz.prog 97 := by
  refine contract Tryz.func97 v97_is R1_ok 200 plusC fun args k h => ?_
  simp only [plusC] at h
  split at h
  · rename_i t1 z1 n sz get t2 z2 m sz' get'
    obtain ⟨a, b, ⟨⟨rfl, hn, ha, hg⟩, ⟨rfl, hm, hb, hg'⟩, hn9, hm9⟩, h⟩ := h
    refine ⟨[.vs t1 z1 n 1 (fun k => [.int .u32 (dig a k)]), .vs t2 z2 m 1 (fun k => [.int .u32 (dig b k)])], ⟨by simpa [le] using hg, by simpa [le] using hg', trivial⟩, ?_⟩
    (try dsimp only [v97, go_sem, Option.bind, Option.map, List.append_nil, Nat.beq, List.cons_append, List.nil_append, List.append_eq, List.map_cons, List.map_nil, ite_self, reduceIte])
    (try simp only [true_and, and_true, imp_self, implies_true, decide_eq_true_eq, decide_eq_false_iff_not, Nat.reduceAdd, Nat.reduceLeDiff, Bool.not_not, reduceCtorEq, false_imp_iff, Bool.not_eq_true', Bool.not_eq_false', Bool.false_eq_true, and_self, forall_const, ne_eq, not_false_eq_true, Nat.reduceEqDiff])
    refine Loop.keep [0, 0, 3, 0, 0] Nat (fun i => [(5, .own 0 0 i 1), (6, .int .u64 (cy a b i)), (7, .int .i64 i)]) (fun i => [(0, .own (decide (i = 0)) 1 i (fun k => [.int .u32 (dig (a + b) k)]))]) [.gone] (fun i => i ≤ max n m + 1) (fun i => max n m + 1 - i) ?_ ?_
    · refine ⟨0, by omega, ?_⟩
      (try dsimp only [go_sem, Option.bind, Option.map, List.append_nil, Nat.beq, List.cons_append, List.nil_append, List.append_eq, List.map_cons, List.map_nil, ite_self, reduceIte])
      simp only [leS_mk, leL_cons, leL_nil, le_junk, le_int, le_bool, le_nil, leLL_nil, leLL_cons, leH_cons, leH_nil, leH1_box, leH1_own, leH1_gone, le_vs, le_agg, le_tup, le_ptr, le_own, le_xp, le_fn, le_opt, le_val, le_elem, le_nil_own, le_nil_vs, leH_ghost, leL_chunk, leXL_id, bnd_int, bnd_bool, bnd_val, bnd_nil, bnd_junk, bnd_vs, bnd_xp, bnd_agg, bnd_tup, bnd_ptr, bnd_own, bnd_elem, bnd_fn, bnd_iface, bnd_opt, bndL_nil, bndL_cons, lenH_cons, lenH_nil, imp_self, implies_true, true_and, and_true]
      simp [cy_0]
    · rintro i hi
      (try dsimp only [R1_ct100, R1_ct99, limbC, trimC, natS, Int.toNat_natCast, go_sem, Option.bind, Option.map, List.append_nil, Nat.beq, List.cons_append, List.nil_append, List.append_eq, List.map_cons, List.map_nil, ite_self, reduceIte])
      (try simp only [true_and, and_true, imp_self, implies_true, decide_eq_true_eq, decide_eq_false_iff_not, Nat.reduceAdd, Nat.reduceLeDiff, Bool.not_not, reduceCtorEq, false_imp_iff, Bool.not_eq_true', Bool.not_eq_false', Bool.false_eq_true, and_self, forall_const, ne_eq, not_false_eq_true, Nat.reduceEqDiff])
      have emax : IntKind.i64.wrap (max (n : Int) (m : Int) + 1) = ((max n m + 1 : Nat) : Int) := by rw [IntWalk.i64_in _ (by omega)]; omega
      rw [emax]
      refine ⟨fun hlt => ⟨a, ⟨padP_self hn ha, by omega⟩, b, ⟨padP_self hm hb, by omega⟩, by decide, by decide, ?_⟩, fun hge => ⟨a + b, ?_, ?_⟩⟩
      · have hd1 := dig_lt a i
        have hd2 := dig_lt b i
        have hc := cy_le a b i
        have e1 := add_dig a b i
        have e2 := add_cy a b i
        rw [u_add (by omega), u_add (by omega)]
        (try dsimp only [go_sem, Option.bind, Option.map, List.append_nil, Nat.beq, List.cons_append, List.nil_append, List.append_eq, List.map_cons, List.map_nil, ite_self, reduceIte])
        (try simp only [true_and, and_true, imp_self, implies_true, decide_eq_true_eq, decide_eq_false_iff_not, Nat.reduceAdd, Nat.reduceLeDiff, Bool.not_not, reduceCtorEq, false_imp_iff, Bool.not_eq_true', Bool.not_eq_false', Bool.false_eq_true, and_self, forall_const, ne_eq, not_false_eq_true, Nat.reduceEqDiff])
        refine ⟨⟨by unfold capOk; omega, fun j hj => ?_⟩, by decide, i + 1, by omega, by omega, ?_⟩
        · match j, hj with
          | 0, _ => exact ⟨rfl, trivial, trivial⟩
        · rw [u3_rem, u_quo (by omega), e1, e2, IntWalk.i64_in ((i : Int) + 1) (by omega)]
          simp only [leS_mk, leL_cons, leL_nil, le_junk, le_int, le_bool, le_nil, leLL_nil, leLL_cons, leH_cons, leH_nil, leH1_box, leH1_own, leH1_gone, le_vs, le_agg, le_tup, le_ptr, le_own, le_xp, le_fn, le_opt, le_val, le_elem, le_nil_own, le_nil_vs, leH_ghost, leL_chunk, leXL_id, bnd_int, bnd_bool, bnd_val, bnd_nil, bnd_junk, bnd_vs, bnd_xp, bnd_agg, bnd_tup, bnd_ptr, bnd_own, bnd_elem, bnd_fn, bnd_iface, bnd_opt, bndL_nil, bndL_cons, lenH_cons, lenH_nil, imp_self, implies_true, true_and, and_true]
          refine ⟨by simp, by simp, fun j hj => ?_⟩
          rcases Nat.lt_or_ge j i with h' | h'
          · rw [if_pos h']; simp only [leL, le, and_self]
          · obtain rfl : j = i := by omega
            rw [if_neg (Nat.lt_irrefl _), Nat.sub_self]
            simp only [purgeL, takeL, dropL, leL, Nat.zero_mul, purge, refs, cond, le, and_self]
      · obtain rfl : i = max n m + 1 := by omega
        refine padP_self (by omega) ?_
        have h1 : a < 4294967296 ^ max n m := Nat.lt_of_lt_of_le ha (Nat.pow_le_pow_right (by decide) (by omega))
        have h2 : b < 4294967296 ^ max n m := Nat.lt_of_lt_of_le hb (Nat.pow_le_pow_right (by decide) (by omega))
        rw [pw_succ]; omega
      · exact ans_natS (t := true) h
  · exact h.1.elim
end Go.Proofs.YtngccjllkgpjmaaGreat

