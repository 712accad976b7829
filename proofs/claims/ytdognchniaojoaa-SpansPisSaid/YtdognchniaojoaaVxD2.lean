/- Operations of a region that draws its order: what exchanges. -/
import Derived.Test.YtdognchniaojoaaVx11
import Derived.Test.YtdognchniaojoaaVxD1
set_option linter.all false
namespace Go.Vx

theorem getL_set_ne : ∀ (l : List SV) (n m : Nat) (x : SV), n ≠ m → getL (setL l n x) m = getL l m
  | [], _, _, _, _ => rfl
  | _ :: _, 0, 0, _, h => absurd rfl h
  | _ :: _, 0, _ + 1, _, _ => rfl
  | _ :: _, _ + 1, 0, _, _ => rfl
  | _ :: l, n + 1, m + 1, x, h => getL_set_ne l n m x (fun e => h (by rw [e]))

theorem setL_comm : ∀ (l : List SV) (n m : Nat) (x y : SV), n ≠ m → setL (setL l n x) m y = setL (setL l m y) n x
  | [], _, _, _, _, _ => rfl
  | _ :: _, 0, 0, _, _, h => absurd rfl h
  | _ :: _, 0, _ + 1, _, _, _ => rfl
  | _ :: _, _ + 1, 0, _, _, _ => rfl
  | a :: l, n + 1, m + 1, x, y, h => congrArg (a :: ·) (setL_comm l n m x y (fun e => h (by rw [e])))

section
variable {s : S} {d d' : Option Nat} {v u : SV}

theorem x_put {x : X} (h : ∀ n, d = some n → n ∉ x.slot) : (s.put d v).x x = s.x x := by
  cases d with
  | none => rfl
  | some n =>
    cases x with
    | cn _ => rfl
    | tm m => exact getL_set_ne _ _ _ _ (fun e => h n rfl (by simp [X.slot, e]))

theorem args_put : ∀ {xs : List X}, (∀ n, d = some n → n ∉ slots xs) → (s.put d v).args xs = s.args xs
  | [], _ => rfl
  | x :: l, h => by
    simp only [S.args]
    rw [x_put (fun n e hm => h n e (by simp [slots, hm])), args_put (fun n e hm => h n e (by simp [slots, hm]))]

theorem put_comm (h : ∀ n, d = some n → d' ≠ some n) : (s.put d v).put d' u = (s.put d' u).put d v := by
  cases d with
  | none => cases d' <;> rfl
  | some n =>
    cases d' with
    | none => rfl
    | some m => simp only [S.put]; rw [setL_comm _ _ _ _ _ (fun e => h n rfl (by rw [e]))]

end

/-! ### Quiet operations while memory grows -/

/-- What is there stays. -/
def Grow (hp hp' : List HO) : Prop := ∀ i, getH hp i ≠ .gone → getH hp' i = getH hp i

theorem cellsAt_grow {hp hp' : List HO} (hg : Grow hp hp') {x : SV} {r : Prop × List SV} (h : cellsAt hp x = some r) : cellsAt hp' x = some r := by
  cases x <;> simp only [cellsAt] at h ⊢ <;> try exact h
  case ptr i off => rw [hg i (by intro e; rw [e] at h; cases h)]; exact h
  case elem i k off sz => rw [hg i (by intro e; rw [e] at h; cases h)]; exact h

theorem eff_grow {hp hp' : List HO} (hg : Grow hp hp') {n n' : Nat} {o : VO} (hq : o.quiet = true) {xs : List SV} {e : Ef} (h : eff hp n o xs = some e) : eff hp' n' o xs = some e := by
  cases o <;> simp only [VO.quiet, reduceCtorEq] at hq <;> try exact h
  case load agg size =>
    simp only [eff, eLoad] at h ⊢
    split at h
    · rename_i a
      obtain ⟨r, hr, h⟩ := Option.bind_eq_some_iff.1 h
      simp only [cellsAt_grow hg hr, Option.bind_some]
      exact h
    · cases h
  case idxArr n size =>
    simp only [eff, eIdxArr] at h ⊢
    split at h
    · rename_i j k i
      rw [hg j (by intro e; rw [e] at h; cases h)]; exact h
    · cases h
  case sliceArr n size lo hi =>
    simp only [eff] at h ⊢
    unfold eSliceArr at h ⊢
    split at h
    · rename_i j
      rw [hg j (by intro e; rw [e] at h; cases h)]; exact h
    · cases h
  case isNil neg =>
    simp only [eff] at h ⊢
    unfold eNil at h ⊢
    split at h
    · rename_i x
      split at h <;> try exact h
      rename_i i _ _ _
      rw [hg i (by intro e; rw [e] at h; cases h)]; exact h
    · cases h

/-! ### Operations as steps -/

/-- What a quiet operation comes to. -/
def fEff (v : VOp) (s : S) : Option (Prop × SV) :=
  match v.g with
  | none => match eff s.hp (lenH s.hp) v.op (s.args v.xs) with
    | some ⟨p, x, .no⟩ => some (p, x)
    | _ => none
  | some (g, pol) => match guardOf (getL s.fr g) pol with
    | none => none
    | some gb => match eff s.hp (lenH s.hp) v.op (unoptsO v.op gb (s.args v.xs)).2 with
      | some ⟨q, x, .no⟩ => some ((unoptsO v.op gb (s.args v.xs)).1 ∧ (gb = true → q), .opt gb x)
      | _ => none

def quietW (o : Option (Prop × SV)) (d : Option Nat) (A : S → Prop) (s : S) : Prop :=
  match o with
  | some (p, x) => p ∧ A (s.put d x)
  | none => False

def ctW (d : Option Nat) (A : S → Prop) (s : S) (ys : List SV) (c : Option Ctr) : Prop :=
  match c with
  | some c => CSat (c.of (viewN false s.hp 3 ys)) fun r hs => (c.alias = true → lenH s.hp = 0) ∧ A (S.put { fr := s.fr, saved := s.saved, hp := s.hp ++ shiftH (lenH s.hp) hs } d (shift (lenH s.hp) r))
  | none => False

def effW (d : Option Nat) (A : S → Prop) (s : S) (e : Option Ef) : Prop :=
  match e with
  | some e => e.pre ∧ A ((s.upd e.upd).put d e.val)
  | none => False

def heavyW (E : Env) (v : VOp) (A : S → Prop) (s : S) (c : Option (FuncId × List SV)) : Prop :=
  match c with
  | some (f, ys) => ctW v.dst A s ys (E.ct f)
  | none => effW v.dst A s (eff s.hp (lenH s.hp) v.op (s.args v.xs))

def ctGW (gb : Bool) (d : Option Nat) (A : S → Prop) (s : S) (p : Prop) (ys : List SV) (c : Option Ctr) : Prop :=
  match c with
  | some c => p ∧ ∃ r, A (s.put d (.opt gb r)) ∧ (gb = true → CSat (c.of (viewN false s.hp 3 ys)) fun r' hs => r = shift (lenH s.hp) r' ∧ hs = [] ∧ (c.alias = true → lenH s.hp = 0))
  | none => False

def heavyGW (E : Env) (v : VOp) (A : S → Prop) (s : S) (g : Option Bool) : Prop :=
  match g with
  | some gb => ctGW gb v.dst A s (unoptsO v.op gb (s.args v.xs)).1 (unoptsO v.op gb (s.args v.xs)).2 (ctOf E v.op)
  | none => False

def dopW (E : Env) (v : VOp) (A : S → Prop) (s : S) : Prop :=
  match v.op.quiet with
  | true => quietW (fEff v s) v.dst A s
  | false => match v.g with
    | none => heavyW E v A s (callee E v.op (s.args v.xs))
    | some (g, pol) => heavyGW E v A s (guardOf (getL s.fr g) pol)

section
variable {E : Env} {v : VOp} {A B : S → Prop} {s : S}

theorem dopW_mono (h : ∀ s, A s → B s) (hd : dopW E v A s) : dopW E v B s := by
  unfold dopW at *
  split
  · rename_i hq
    rw [hq] at hd
    simp only [quietW] at *
    cases hf : fEff v s with
    | none => rw [hf] at hd; exact hd
    | some r => rw [hf] at hd; exact ⟨hd.1, h _ hd.2⟩
  · rename_i hq
    rw [hq] at hd
    simp only at hd
    split
    · rename_i hg
      rw [hg] at hd
      simp only at hd
      unfold heavyW at *
      split
      · rename_i f ys hc
        rw [hc] at hd
        simp only [ctW] at *
        cases hct : E.ct f with
        | none => rw [hct] at hd; exact hd
        | some c => rw [hct] at hd; exact hd.mono fun r hs hh => ⟨hh.1, h _ hh.2⟩
      · rename_i hc
        rw [hc] at hd
        simp only [effW] at *
        cases he : eff s.hp (lenH s.hp) v.op (s.args v.xs) with
        | none => rw [he] at hd; exact hd
        | some e => rw [he] at hd; exact ⟨hd.1, h _ hd.2⟩
    · rename_i g pol hg
      rw [hg] at hd
      simp only at hd
      unfold heavyGW at *
      split
      · rename_i gb hgb
        rw [hgb] at hd
        simp only [ctGW] at *
        cases hct : ctOf E v.op with
        | none => rw [hct] at hd; exact hd
        | some c => rw [hct] at hd; obtain ⟨h1, r, h2, h3⟩ := hd; exact ⟨h1, r, h _ h2, h3⟩
      · rename_i hgb
        rw [hgb] at hd; exact hd

theorem dopW_strict (hq : v.op.quiet = true) : ¬ dopW E v (fun _ => False) s := by
  unfold dopW
  rw [hq]
  simp only [quietW]
  cases fEff v s with
  | none => exact id
  | some r => exact fun h => h.2

theorem fEff_put {d : Option Nat} {x : SV} (h : ∀ n, d = some n → n ∉ v.reads) : fEff v (s.put d x) = fEff v s := by
  have ha : (s.put d x).args v.xs = s.args v.xs := args_put fun n e hm => h n e (by simp [VOp.reads, hm])
  unfold fEff
  cases hg : v.g with
  | none => simp only [ha, put_hp]
  | some gp =>
    obtain ⟨g, pol⟩ := gp
    have hgg : getL (s.put d x).fr g = getL s.fr g := by
      cases d with
      | none => rfl
      | some n => exact getL_set_ne _ _ _ _ (fun e => h n rfl (by simp [VOp.reads, hg, e]))
    simp only [ha, put_hp, hgg]

theorem args_fr {s s' : S} (hf : s'.fr = s.fr) : ∀ (xs : List X), s'.args xs = s.args xs
  | [] => rfl
  | x :: l => by
    simp only [S.args]
    rw [args_fr hf l]
    cases x <;> simp [S.x, hf]

theorem fEff_grow {s' : S} {r : Prop × SV} (hq : v.op.quiet = true) (hf : s'.fr = s.fr) (hg : Grow s.hp s'.hp) (h : fEff v s = some r) : fEff v s' = some r := by
  unfold fEff at *
  simp only [args_fr hf, hf]
  cases hgd : v.g with
  | none =>
    rw [hgd] at h
    simp only at h ⊢
    cases he : eff s.hp (lenH s.hp) v.op (s.args v.xs) with
    | none => rw [he] at h; cases h
    | some e => rw [he] at h; rw [eff_grow hg hq he]; exact h
  | some gp =>
    obtain ⟨g, pol⟩ := gp
    rw [hgd] at h
    simp only at h ⊢
    cases hgb : guardOf (getL s.fr g) pol with
    | none => rw [hgb] at h; cases h
    | some gb =>
      rw [hgb] at h
      simp only at h ⊢
      cases he : eff s.hp (lenH s.hp) v.op (unoptsO v.op gb (s.args v.xs)).2 with
      | none => rw [he] at h; cases h
      | some e => rw [he] at h; rw [eff_grow hg hq he]; exact h


def noApp : Upd → Prop
  | .app _ _ => False
  | _ => True

theorem upd_put {d : Option Nat} {x : SV} {u : Upd} (h : noApp u) : (s.put d x).upd u = (s.upd u).put d x := by
  cases u <;> first | exact h.elim | (cases d <;> rfl)

theorem hp_put {d : Option Nat} {x : SV} {hp : List HO} : ({ fr := (s.put d x).fr, saved := (s.put d x).saved, hp := hp } : S) = S.put { fr := s.fr, saved := s.saved, hp := hp } d x := by
  cases d <;> rfl

theorem grow_app (hp hs : List HO) : Grow hp (hp ++ hs) := fun i hi => by
  rw [getH_app]
  split
  · rfl
  · rename_i hlt
    exact absurd (getH_ge hp i (by omega)) hi

theorem grow_snoc (hp : List HO) (x : HO) : Grow hp (snocH hp x) := fun i hi => by
  rcases Nat.lt_or_ge i (lenH hp) with h | h
  · exact getH_snoc_lt hp x i h
  · exact absurd (getH_ge hp i h) hi

variable {i j : VOp} {p : Prop} {x : SV}

theorem dopW_put (hi : i.op.quiet = true) (h1 : ∀ n, i.dst = some n → n ∉ j.reads) (h2 : ∀ n, i.dst = some n → j.dst ≠ some n) (h3 : ∀ n, j.dst = some n → n ∉ i.reads)
    (hh : ∀ e, j.op.quiet = false → callee E j.op (s.args j.xs) = none → eff s.hp (lenH s.hp) j.op (s.args j.xs) = some e → noApp e.upd ∧ fEff i (s.upd e.upd) = some (p, x))
    (hf : fEff i s = some (p, x)) (h : dopW E j A (s.put i.dst x)) : dopW E j (fun s' => fEff i s' = some (p, x) ∧ A (s'.put i.dst x)) s := by
  have ha : (s.put i.dst x).args j.xs = s.args j.xs := args_put fun n e hm => h1 n e (by simp [VOp.reads, hm])
  unfold dopW at *
  split
  · rename_i hq
    rw [hq] at h
    simp only [fEff_put h1] at h
    simp only [quietW] at *
    cases hfj : fEff j s with
    | none => rw [hfj] at h; exact h
    | some r => rw [hfj] at h; exact ⟨h.1, by rw [fEff_put h3]; exact hf, by rw [← put_comm h2]; exact h.2⟩
  · rename_i hq
    rw [hq] at h
    simp only at h
    split
    · rename_i hg
      rw [hg] at h
      simp only [ha] at h
      unfold heavyW at *
      split
      · rename_i f ys hc
        rw [hc] at h
        simp only [ctW, put_hp] at *
        cases hct : E.ct f with
        | none => rw [hct] at h; exact h
        | some c =>
          rw [hct] at h
          refine CSat.mono h fun r hs hr => ⟨hr.1, ?_, ?_⟩
          · rw [fEff_put h3]
            exact fEff_grow (s := s) hi rfl (grow_app _ _) hf
          · have hr2 := hr.2
            rw [hp_put, put_comm h2] at hr2; exact hr2
      · rename_i hc
        rw [hc] at h
        simp only [effW, put_hp, ha] at *
        cases he : eff s.hp (lenH s.hp) j.op (s.args j.xs) with
        | none => rw [he] at h; exact h
        | some e =>
          rw [he] at h
          obtain ⟨k1, k2⟩ := hh e hq hc he
          refine ⟨h.1, ?_, ?_⟩
          · rw [fEff_put h3]; exact k2
          · rw [← put_comm h2, ← upd_put k1]; exact h.2
    · rename_i g pol hg
      rw [hg] at h
      have hgg : getL (s.put i.dst x).fr g = getL s.fr g := by
        cases hd : i.dst with
        | none => rfl
        | some n => exact getL_set_ne _ _ _ _ (fun e => h1 n hd (by simp [VOp.reads, hg, e]))
      simp only [ha, hgg] at h
      unfold heavyGW at *
      split
      · rename_i gb hgb
        rw [hgb] at h
        simp only [ctGW, put_hp, ha] at *
        cases hct : ctOf E j.op with
        | none => rw [hct] at h; exact h
        | some c =>
          rw [hct] at h
          obtain ⟨k1, r, k2, k3⟩ := h
          exact ⟨k1, r, ⟨by rw [fEff_put h3]; exact hf, by rw [← put_comm h2]; exact k2⟩, k3⟩
      · rename_i hgb
        rw [hgb] at h; exact h

/-- A quiet operation exchanges with one that does not wait for it. -/
theorem dopW_exch (hi : i.op.quiet = true) (h1 : ∀ n, i.dst = some n → n ∉ j.reads) (h2 : ∀ n, i.dst = some n → j.dst ≠ some n) (h3 : ∀ n, j.dst = some n → n ∉ i.reads)
    (hh : ∀ e r, j.op.quiet = false → callee E j.op (s.args j.xs) = none → eff s.hp (lenH s.hp) j.op (s.args j.xs) = some e → fEff i s = some r → noApp e.upd ∧ fEff i (s.upd e.upd) = some r)
    (h : dopW E i (dopW E j A) s) : dopW E j (dopW E i A) s := by
  unfold dopW at h
  rw [hi] at h
  simp only [quietW] at h
  cases hf : fEff i s with
  | none => rw [hf] at h; exact h.elim
  | some r =>
    obtain ⟨p, x⟩ := r
    rw [hf] at h
    refine dopW_mono (fun s' hs' => ?_) (dopW_put hi h1 h2 h3 (fun e hq hc he => hh e _ hq hc he hf) hf h.2)
    unfold dopW
    rw [hi]
    simp only [quietW]
    rw [hs'.1]
    exact ⟨h.1, hs'.2⟩

end
end Go.Vx
