/- Regions that draw their order: what 'drawOf' has checked. -/
import Derived.Test.YtdognchniaojoaaVxD10
set_option linter.all false
namespace Go.Vx
open Go.RowKit

def entryOf (clo : Nat → Nat → Bool) (all : List VOp) (v : VOp) (j : Nat) : DT :=
  match silentOf v with
  | some (d, _) => .silent d
  | none => .op v (bif v.op.isStore then chkOf clo j all 0 else [])

theorem tabOf_get {clo : Nat → Nat → Bool} {all : List VOp} : ∀ (l : List VOp) (j i : Nat), (tabOf clo all l j)[i]? = (l[i]?).map fun v => entryOf clo all v (j + i)
  | [], _, _ => by simp [tabOf]
  | v :: l, j, 0 => by
    simp only [tabOf, List.getElem?_cons_zero, Option.map_some, Nat.add_zero, entryOf]
    cases silentOf v <;> rfl
  | v :: l, j, i + 1 => by
    simp only [tabOf, List.getElem?_cons_succ]
    rw [tabOf_get l (j + 1) i]
    congr 1
    funext v
    rw [show j + 1 + i = j + (i + 1) by omega]

theorem mem_silOf {k d : Nat} {z : AL} : ∀ {l : List VOp} {j : Nat}, (k, d, z) ∈ silOf l j ↔ ∃ i v, l[i]? = some v ∧ k = j + i ∧ silentOf v = some (d, z)
  | [], j => by simp [silOf]
  | v :: l, j => by
    have ih := mem_silOf (k := k) (d := d) (z := z) (l := l) (j := j + 1)
    unfold silOf
    cases hs : silentOf v with
    | none =>
      simp only
      rw [ih]
      constructor
      · rintro ⟨i, u, h1, h2, h3⟩; exact ⟨i + 1, u, by simpa using h1, by omega, h3⟩
      · rintro ⟨i, u, h1, h2, h3⟩
        cases i with
        | zero => simp only [List.getElem?_cons_zero, Option.some.injEq] at h1; subst h1; rw [hs] at h3; cases h3
        | succ i => exact ⟨i, u, by simpa using h1, by omega, h3⟩
    | some r =>
      obtain ⟨d', z'⟩ := r
      simp only [List.mem_cons]
      rw [ih]
      constructor
      · rintro (h | ⟨i, u, h1, h2, h3⟩)
        · cases h; exact ⟨0, v, rfl, rfl, hs⟩
        · exact ⟨i + 1, u, by simpa using h1, by omega, h3⟩
      · rintro ⟨i, u, h1, h2, h3⟩
        cases i with
        | zero => simp only [List.getElem?_cons_zero, Option.some.injEq] at h1; subst h1; rw [hs] at h3; cases h3; left; rw [h2]; rfl
        | succ i => exact .inr ⟨i, u, by simpa using h1, by omega, h3⟩

theorem vopsOf_get {P : Program} {all : Array Oper} : ∀ {rest : List Oper} {vs : List VOp}, vopsOf P all rest = some vs → ∀ (i : Nat) (v : VOp), vs[i]? = some v → ∃ o, rest[i]? = some o ∧ vopOf P all o = some v
  | [], vs, h, i, v, hv => by simp only [vopsOf, Option.some.injEq] at h; subst h; simp at hv
  | o :: l, vs, h, i, v, hv => by
    simp only [vopsOf] at h
    obtain ⟨x, hx, h⟩ := Option.bind_eq_some_iff.1 h
    obtain ⟨y, hy, rfl⟩ := Option.map_eq_some_iff.1 h
    cases i with
    | zero => simp only [List.getElem?_cons_zero, Option.some.injEq] at hv; subst hv; exact ⟨o, rfl, hx⟩
    | succ i => exact vopsOf_get hy i v (by simpa using hv)

theorem commAll_at {clo : Nat → Nat → Bool} {i : Nat} {v : VOp} : ∀ {l : List DT} {j : Nat}, commAll clo i v l j = true → ∀ (k : Nat) (t : DT), l[k]? = some t → commB clo i v (j + k) t = true
  | t :: l, j, h, 0, u, hu => by
    simp only [commAll, Bool.and_eq_true] at h
    simp only [List.getElem?_cons_zero, Option.some.injEq] at hu; subst hu; exact h.1
  | t :: l, j, h, k + 1, u, hu => by
    simp only [commAll, Bool.and_eq_true] at h
    have := commAll_at h.2 k u (by simpa using hu)
    rw [show j + 1 + k = j + (k + 1) by omega] at this
    exact this

end Go.Vx
