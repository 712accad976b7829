/- Regions that draw their order: stores, silent allocs, the steps' exchange. -/
import Derived.Test.YtdognchniaojoaaVxD2
set_option linter.all false
namespace Go.Vx

theorem eff_pure {hp hp' : List HO} {n n' : Nat} {o : VO} (hq : o.quiet = true) (hr : o.readsHp = false) (xs : List SV) : eff hp' n' o xs = eff hp n o xs := by
  cases o <;> simp only [VO.quiet, VO.readsHp, reduceCtorEq] at hq hr <;> rfl

def headV : List SV → SV
  | [] => .junk
  | x :: _ => x

theorem cellsAt_blk {hp hp' : List HO} {x : SV} (h : ∀ b, blk x = some b → getH hp' b = getH hp b) : cellsAt hp' x = cellsAt hp x := by
  cases x <;> try rfl
  case ptr i off => simp only [cellsAt, h i rfl]
  case elem i k off sz => simp only [cellsAt, h i rfl]

theorem eff_blk {hp hp' : List HO} {n n' : Nat} {o : VO} (hq : o.quiet = true) {xs : List SV} (h : ∀ b, blk (headV xs) = some b → getH hp' b = getH hp b) : eff hp' n' o xs = eff hp n o xs := by
  cases hr : o.readsHp with
  | false => exact eff_pure hq hr xs
  | true =>
    cases o <;> simp only [VO.readsHp, reduceCtorEq] at hr
    case load agg size =>
      cases xs with
      | nil => rfl
      | cons a l =>
        cases l with
        | nil =>
          have := cellsAt_blk (x := a) h
          simp only [eff, eLoad, this]
        | cons _ _ => rfl
    case idxArr m size =>
      rcases xs with _ | ⟨a, _ | ⟨b, _ | ⟨c, l⟩⟩⟩ <;> try rfl
      · cases a <;> try rfl
        case ptr j off => cases off <;> rfl
      · cases a <;> try rfl
        case ptr j off =>
          have := h j rfl
          cases off <;> cases b <;> try rfl
          simp only [eff, eIdxArr, this]
      · cases a <;> try rfl
        case ptr j off => cases off <;> cases b <;> rfl
    case sliceArr m size lo hi =>
      rcases xs with _ | ⟨a, _ | ⟨b, l⟩⟩
      · cases lo <;> cases hi <;> rfl
      · cases lo <;> cases hi <;> try rfl
        cases a <;> try rfl
        case ptr j off =>
          have := h j rfl
          cases off <;> try rfl
          simp only [eff, eSliceArr, this]
      · cases lo <;> cases hi <;> try rfl
        cases a <;> try rfl
        case ptr j off => cases off <;> rfl
    case isNil neg =>
      rcases xs with _ | ⟨a, _ | ⟨b, l⟩⟩
      · rfl
      · rfl
      · rcases l with _ | ⟨c, l⟩
        · cases b <;> try rfl
          cases a <;> try rfl
          case own i lo m sz =>
            have := h i rfl
            simp only [eff, eNil, this]
        · cases b <;> rfl

theorem store_upd {hp : List HO} {n : Nat} {o : VO} (ho : o.isStore = true) {xs : List SV} {e : Ef} (h : eff hp n o xs = some e) : ∃ k ho, e.upd = .set k ho ∧ blk (headV xs) = some k := by
  cases o <;> simp only [VO.isStore, reduceCtorEq] at ho
  simp only [eff, eStore] at h
  split at h
  · rename_i a v
    obtain ⟨e', h', rfl⟩ := Option.map_eq_some_iff.1 h
    cases a <;> simp only [storeAt, reduceCtorEq] at h'
    · rename_i i off
      split at h'
      · cases h'; exact ⟨_, _, rfl, rfl⟩
      · split at h'
        · cases h'; exact ⟨_, _, rfl, rfl⟩
        · cases h'
      · cases h'
    · rename_i i k off sz
      split at h'
      · cases h'; exact ⟨_, _, rfl, rfl⟩
      · cases h'
  · cases h

theorem new_upd {hp : List HO} {n : Nat} {o : VO} (hq : o.quiet = false) (ho : o.isStore = false) (ha : o.isAppend = false) {xs : List SV} {e : Ef} (h : eff hp n o xs = some e) : ∃ ho, e.upd = .new ho := by
  cases o <;> simp only [VO.quiet, VO.isStore, VO.isAppend, reduceCtorEq] at hq ho ha <;> simp only [eff] at h
  · cases h; exact ⟨_, rfl⟩
  · cases h; exact ⟨_, rfl⟩
  · unfold eBox at h; split at h
    · cases h; exact ⟨_, rfl⟩
    · cases h
  · obtain ⟨⟨p, cs⟩, h', h⟩ := Option.bind_eq_some_iff.1 h
    cases h; exact ⟨_, rfl⟩
  · unfold eMake at h; split at h
    · cases h; exact ⟨_, rfl⟩
    · cases h
  all_goals cases h

theorem headV_args (s : S) : ∀ (xs : List X), headV (s.args xs) = s.x (headX xs)
  | [] => rfl
  | _ :: _ => rfl

theorem headV_unopts (gb : Bool) : ∀ (xs : List SV), headV (unopts gb xs).2 = strip (headV xs)
  | [] => rfl
  | x :: _ => by cases x <;> rfl

theorem headV_unoptsO (o : VO) (gb : Bool) (xs : List SV) : headV (unoptsO o gb xs).2 = strip (headV xs) := by
  unfold unoptsO unoptsB
  split
  · exact headV_unopts gb xs
  · split
    · rename_i x y
      cases x <;> rfl
    · exact headV_unopts gb _

/-- A quiet operation does not see a write elsewhere. -/
theorem fEff_set {v : VOp} {s : S} {k : Nat} {ho : HO} (hq : v.op.quiet = true) (h : v.op.readsHp = true → ∀ b, blk (strip (s.x (headX v.xs))) = some b → b ≠ k) : fEff v (s.upd (.set k ho)) = fEff v s := by
  have key : ∀ xs : List SV, (v.op.readsHp = true → ∀ b, blk (headV xs) = some b → b ≠ k) → eff (s.upd (.set k ho)).hp (lenH (s.upd (.set k ho)).hp) v.op xs = eff s.hp (lenH s.hp) v.op xs := by
    intro xs hx
    cases hr : v.op.readsHp with
    | false => exact eff_pure hq hr xs
    | true => exact eff_blk hq fun b hb => getH_set_ne _ _ _ _ (fun e => hx hr b hb e.symm)
  have hfr : (s.upd (.set k ho)).fr = s.fr := rfl
  have ha : (s.upd (.set k ho)).args v.xs = s.args v.xs := args_fr hfr _
  unfold fEff
  cases hg : v.g with
  | none =>
    simp only [ha]
    rw [key]
    intro hr b hb
    refine h hr b ?_
    rw [headV_args] at hb
    cases hx : s.x (headX v.xs) <;> rw [hx] at hb <;> first | exact hb | cases hb
  | some gp =>
    obtain ⟨g, pol⟩ := gp
    simp only [ha, hfr]
    cases guardOf (getL s.fr g) pol with
    | none => rfl
    | some gb =>
      simp only
      rw [key]
      intro hr b hb
      refine h hr b ?_
      rw [headV_unoptsO, headV_args] at hb
      exact hb

end Go.Vx
