/- Regions that draw their order: the start, where the allocs are told. -/
import Derived.Test.YtdognchniaojoaaVxD8
set_option linter.all false
namespace Go.Vx
open Go.RowKit
section
variable {P : Program} {E : Env} {w : World} {w0 : Cx} {rd : Option Nat} {Pd Pd' : List Pend} {A : S → Prop} {s : S} {bs : List BK} {B : Nat} {hp hp' : List HO}

theorem keeps_gone : Keeps w bs w (bs ++ [.gone]) := by
  intro b hf o ho
  refine ⟨ho, fun i b' c m h => ?_⟩
  rw [List.getElem?_append] at h
  split at h
  · exact hf i b' c m h
  · rw [List.getElem?_singleton] at h; split at h <;> cases h

theorem gone_hp (hH : Hp w bs B hp) : Hp w (bs ++ [.gone]) B (snocH hp .gone) := by
  have hst : ∀ e, Stays e bs (bs ++ [.gone]) := fun e => push_stays _ _
  have hget : ∀ (i b c m : Nat), (bs ++ [BK.gone])[i]? = some (.blk b c m) → bs[i]? = some (.blk b c m) := by
    intro i b c m h
    rw [List.getElem?_append] at h
    split at h
    · exact h
    · rw [List.getElem?_singleton] at h; split at h <;> cases h
  refine ⟨by simp [hH.len, lenH_snoc], fun i => ?_, fun i j b c m c' m' h1 h2 => hH.inj i j b c m c' m' (hget _ _ _ _ h1) (hget _ _ _ _ h2), fun i b c m h1 => hH.lo i b c m (hget _ _ _ _ h1)⟩
  rcases Nat.lt_trichotomy i (lenH hp) with hi | hi | hi
  · rw [getH_snoc_lt _ _ _ hi]
    exact (hH.ent i).keep keeps_gone (hst _) (by rw [List.getElem?_append_left (by rw [hH.len]; exact hi)]) (fun _ _ _ _ => rfl)
  · subst hi; rw [getH_snoc_eq]; exact .inl (last_get hH)
  · rw [getH_ge _ _ (by rw [lenH_snoc]; omega)]
    right
    rw [List.getElem?_eq_none]; simp [hH.len]; omega

theorem RepL.junkAt : ∀ {l : List SV} {vs : List Value} (_ : RepL w bs B l vs) (n : Nat), RepL w bs B (setL l n .junk) vs
  | _, _, .nil, n => by cases n <;> exact .nil
  | _, _, .cons _ _ _ _ _ h', 0 => .cons _ _ _ _ (.x _ _ (.junk _)) h'
  | _, _, .cons _ _ _ _ h h', n + 1 => .cons _ _ _ _ h (RepL.junkAt h' n)

theorem setH_snoc_eq : ∀ (l : List HO) (x y : HO), setH (snocH l x) (lenH l) y = snocH l y
  | [], _, _ => rfl
  | a :: l, x, y => congrArg (a :: ·) (setH_snoc_eq l x y)

/-- One more alloc is told ahead. -/
theorem pend_new {a : Act} {sv : List Act} (hR : PR w0 Pd s a sv w) {d : Nat} {z : AL} (hd : ∀ q ∈ Pd, q.slot ≠ d) :
    PR w0 (⟨lenH s.hp, d, z⟩ :: Pd) ((s.upd (.new z.ho)).put (some d) (.ptr (lenH s.hp) 0)) a sv w := by
  obtain ⟨⟨bs, hf, hsv, hH, hb, hoth⟩, hPd⟩ := hR
  have hlt := pend_lt hPd
  refine ⟨⟨bs ++ [.gone], ?_, ?_, ?_, hb, hoth.keep keeps_gone⟩, fun p hp => ?_⟩
  · have e : (er (⟨lenH s.hp, d, z⟩ :: Pd) ((s.upd (.new z.ho)).put (some d) (.ptr (lenH s.hp) 0))).fr = setL (er Pd s).fr d .junk := by
      show setL (junkSlots (setL s.fr d (.ptr (lenH s.hp) 0)) Pd) d .junk = setL (junkSlots s.fr Pd) d .junk
      rw [junkSlots_set hd, setL_setL]
    rw [e]
    exact (hf.junkAt d).keep keeps_gone (push_stays _ none) noRefL_none
  · exact RepLL.keep keeps_gone (push_stays _ none) hsv
  · have e : (er (⟨lenH s.hp, d, z⟩ :: Pd) ((s.upd (.new z.ho)).put (some d) (.ptr (lenH s.hp) 0))).hp = snocH (er Pd s).hp .gone := by
      show setH (goneIdx (snocH s.hp z.ho) Pd) (lenH s.hp) .gone = snocH (goneIdx s.hp Pd) .gone
      rw [goneIdx_snoc hlt]
      have := setH_snoc_eq (goneIdx s.hp Pd) z.ho .gone
      rw [lenH_gone] at this
      exact this
    rw [e]
    exact gone_hp hH
  · rcases List.mem_cons.1 hp with rfl | hp
    · exact ⟨getH_snoc_eq _ _, setL_setL _ _ _ _⟩
    · refine ⟨?_, ?_⟩
      · show getH (snocH s.hp z.ho) p.idx = _
        rw [getH_snoc_lt _ _ _ (hlt p hp)]; exact (hPd p hp).1
      · show setL (setL s.fr d _) p.slot _ = setL s.fr d _
        rw [setL_comm _ _ _ _ _ (fun e => hd p hp e.symm), (hPd p hp).2]

def pends : Nat → List (Nat × AL) → List Pend → List Pend
  | _, [], Pd => Pd
  | n, (d, z) :: l, Pd => pends (n + 1) l (⟨n, d, z⟩ :: Pd)

def distinct : List (Nat × AL) → List Nat → Bool
  | [], _ => true
  | (d, _) :: l, ds => !ds.contains d && distinct l (d :: ds)

theorem pend_all {a : Act} {sv : List Act} : ∀ (al : List (Nat × AL)) (Pd : List Pend) (s : S), distinct al (Pd.map (·.slot)) = true → PR w0 Pd s a sv w → PR w0 (pends (lenH s.hp) al Pd) (runAl s al) a sv w
  | [], _, _, _, h => h
  | (d, z) :: l, Pd, s, hdis, h => by
    simp only [distinct, Bool.and_eq_true, Bool.not_eq_true'] at hdis
    have hd : ∀ q ∈ Pd, q.slot ≠ d := by
      intro q hq he
      have : (Pd.map (·.slot)).contains d = true := by
        rw [List.contains_iff_mem, List.mem_map]; exact ⟨q, hq, he⟩
      rw [hdis.1] at this; cases this
    have := pend_all l (⟨lenH s.hp, d, z⟩ :: Pd) _ (by simpa using hdis.2) (pend_new h (z := z) hd)
    have hl : lenH ((s.upd (.new z.ho)).put (some d) (.ptr (lenH s.hp) 0)).hp = lenH s.hp + 1 := lenH_snoc _ _
    rw [hl] at this
    exact this

theorem pr_nil {a : Act} {sv : List Act} (h : Rl w0 s a sv w) : PR w0 [] s a sv w := ⟨h, fun _ hp => by cases hp⟩

theorem er_swap (p q : Pend) (l : List Pend) : er (p :: q :: l) s = er (q :: p :: l) s := by
  have h1 : ∀ (fr : List SV), setL (setL fr q.slot .junk) p.slot .junk = setL (setL fr p.slot .junk) q.slot .junk := fun fr => by
    by_cases h : q.slot = p.slot
    · rw [h]
    · exact setL_comm _ _ _ _ _ h
  have h2 : ∀ (hp : List HO), setH (setH hp q.idx .gone) p.idx .gone = setH (setH hp p.idx .gone) q.idx .gone := fun hp => by
    by_cases h : q.idx = p.idx
    · rw [h]
    · exact setH_comm _ _ _ _ _ h
  simp only [er, junkSlots, goneIdx, h1, h2]

theorem er_cons (p : Pend) {l l' : List Pend} (h : er l s = er l' s) : er (p :: l) s = er (p :: l') s := by
  simp only [er, S.mk.injEq, true_and] at h
  simp only [er, junkSlots, goneIdx, h.1, h.2]

theorem er_perm (h : Pd.Perm Pd') : er Pd s = er Pd' s := by
  induction h with
  | nil => rfl
  | cons p _ ih => exact er_cons p ih
  | swap p q l => exact er_swap q p l
  | trans _ _ ih1 ih2 => exact ih1.trans ih2

theorem pr_perm {a : Act} {sv : List Act} (h : Pd.Perm Pd') (hR : PR w0 Pd s a sv w) : PR w0 Pd' s a sv w :=
  ⟨by rw [← er_perm h]; exact hR.1, fun p hp => hR.2 p (h.mem_iff.2 hp)⟩

end
end Go.Vx
