/- Regions that draw their order: a state in which some allocs are told already that the program has yet to run. -/
import Derived.Test.YtdognchniaojoaaVx11b
import Derived.Test.YtdognchniaojoaaVxD5
set_option linter.all false
namespace Go.Vx
open Go.RowKit

structure Pend where
  idx : Nat
  slot : Nat
  cells : AL

def junkSlots : List SV → List Pend → List SV
  | fr, [] => fr
  | fr, p :: l => setL (junkSlots fr l) p.slot .junk

def goneIdx : List HO → List Pend → List HO
  | hp, [] => hp
  | hp, p :: l => setH (goneIdx hp l) p.idx .gone

theorem AL.ho_ne (z : AL) : z.ho ≠ .gone := by cases z <;> (intro h; cases h)

/-- The state without the pending allocs. -/
def er (Pd : List Pend) (s : S) : S := { fr := junkSlots s.fr Pd, saved := s.saved, hp := goneIdx s.hp Pd }

def PR (w0 : Cx) (Pd : List Pend) (s : S) (a : Act) (sv : List Act) (w : World) : Prop :=
  Rl w0 (er Pd s) a sv w ∧ ∀ p ∈ Pd, getH s.hp p.idx = p.cells.ho ∧ setL s.fr p.slot (.ptr p.idx 0) = s.fr

section
variable {Pd : List Pend} {hp : List HO} {fr : List SV}

theorem lenH_gone : ∀ (Pd : List Pend), lenH (goneIdx hp Pd) = lenH hp
  | [] => rfl
  | p :: l => by rw [goneIdx, lenH_set, lenH_gone l]

theorem getL_junkSlots : ∀ {Pd : List Pend} {n : Nat}, (∀ p ∈ Pd, p.slot ≠ n) → getL (junkSlots fr Pd) n = getL fr n
  | [], _, _ => rfl
  | p :: l, n, h => by
    rw [junkSlots, getL_set_ne _ _ _ _ (h p List.mem_cons_self), getL_junkSlots fun q hq => h q (List.mem_cons_of_mem _ hq)]

theorem getH_gone_ne : ∀ {Pd : List Pend} {n : Nat}, (∀ p ∈ Pd, p.idx ≠ n) → getH (goneIdx hp Pd) n = getH hp n
  | [], _, _ => rfl
  | p :: l, n, h => by
    rw [goneIdx, getH_set_ne _ _ _ _ (h p List.mem_cons_self), getH_gone_ne fun q hq => h q (List.mem_cons_of_mem _ hq)]

theorem getH_gone_eq : ∀ {Pd : List Pend} {p : Pend}, p ∈ Pd → getH (goneIdx hp Pd) p.idx = .gone
  | q :: l, p, h => by
    rw [goneIdx]
    by_cases he : q.idx = p.idx
    · rw [he]
      rcases Nat.lt_or_ge p.idx (lenH (goneIdx hp l)) with hl | hl
      · rw [getH_set_eq _ _ _ hl]
      · rw [getH_ge _ _ (by rw [lenH_set]; exact hl)]
    · rw [getH_set_ne _ _ _ _ he]
      rcases List.mem_cons.1 h with rfl | h
      · exact absurd rfl he
      · exact getH_gone_eq h

theorem junkSlots_set : ∀ {Pd : List Pend} {n : Nat} {x : SV}, (∀ p ∈ Pd, p.slot ≠ n) → junkSlots (setL fr n x) Pd = setL (junkSlots fr Pd) n x
  | [], _, _, _ => rfl
  | p :: l, n, x, h => by
    rw [junkSlots, junkSlots, junkSlots_set (fun q hq => h q (List.mem_cons_of_mem _ hq)), setL_comm _ _ _ _ _ (fun e => h p List.mem_cons_self e.symm)]

theorem setH_comm : ∀ (l : List HO) (n m : Nat) (x y : HO), n ≠ m → setH (setH l n x) m y = setH (setH l m y) n x
  | [], _, _, _, _, _ => rfl
  | _ :: _, 0, 0, _, _, h => absurd rfl h
  | _ :: _, 0, _ + 1, _, _, _ => rfl
  | _ :: _, _ + 1, 0, _, _, _ => rfl
  | a :: l, n + 1, m + 1, x, y, h => congrArg (a :: ·) (setH_comm l n m x y (fun e => h (by rw [e])))

theorem goneIdx_set : ∀ {Pd : List Pend} {n : Nat} {x : HO}, (∀ p ∈ Pd, p.idx ≠ n) → goneIdx (setH hp n x) Pd = setH (goneIdx hp Pd) n x
  | [], _, _, _ => rfl
  | p :: l, n, x, h => by
    rw [goneIdx, goneIdx, goneIdx_set (fun q hq => h q (List.mem_cons_of_mem _ hq)), setH_comm _ _ _ _ _ (fun e => h p List.mem_cons_self e.symm)]

theorem setH_app : ∀ (a b : List HO) (n : Nat) (x : HO), n < lenH a → setH (a ++ b) n x = setH a n x ++ b
  | [], _, _, _, h => by simp [lenH] at h
  | _ :: _, _, 0, _, _ => rfl
  | y :: a, b, n + 1, x, h => congrArg (y :: ·) (setH_app a b n x (by simpa [lenH] using h))

theorem snocH_eq : ∀ (a : List HO) (x : HO), snocH a x = a ++ [x]
  | [], _ => rfl
  | y :: a, x => congrArg (y :: ·) (snocH_eq a x)

theorem goneIdx_app {hs : List HO} : ∀ {Pd : List Pend}, (∀ p ∈ Pd, p.idx < lenH hp) → goneIdx (hp ++ hs) Pd = goneIdx hp Pd ++ hs
  | [], _ => rfl
  | p :: l, h => by
    rw [goneIdx, goneIdx, goneIdx_app (fun q hq => h q (List.mem_cons_of_mem _ hq)), setH_app _ _ _ _ (by rw [lenH_gone]; exact h p List.mem_cons_self)]

theorem goneIdx_snoc {x : HO} (h : ∀ p ∈ Pd, p.idx < lenH hp) : goneIdx (snocH hp x) Pd = snocH (goneIdx hp Pd) x := by
  rw [snocH_eq, snocH_eq, goneIdx_app h]

/-- A block that is there is not pending. -/
theorem live_not {w : World} {bs : List BK} {B i : Nat} {x : BK} (hH : Hp w bs B (goneIdx hp Pd)) (hb : bs[i]? = some x) (hx : x ≠ .gone) : (∀ p ∈ Pd, p.idx ≠ i) ∧ getH (goneIdx hp Pd) i = getH hp i := by
  have : ∀ p ∈ Pd, p.idx ≠ i := by
    rintro p hp rfl
    have := hH.ent p.idx
    rw [getH_gone_eq hp] at this
    rcases this with h | h
    · rw [hb] at h; cases h; exact hx rfl
    · rw [hb] at h; cases h
  exact ⟨this, getH_gone_ne this⟩

theorem hpV {w : World} {bs : List BK} {B : Nat} (hH : Hp w bs B (goneIdx hp Pd)) : HpV w bs B hp :=
  ⟨fun i x hb hx => by have := hH.ent i; rw [(live_not hH hb hx).2] at this; exact this, fun _ _ _ _ hb => hH.le hb, hH.lo⟩

/-- A pointer that is there points into a block that is there. -/
theorem blk_live {w : World} {bs : List BK} {B b : Nat} {x : SV} {v : Value} (h : Rep w bs B x v) (hb : blk x = some b) : ∃ y, bs[b]? = some y ∧ y ≠ .gone := by
  cases h with
  | x _ _ h => cases h <;> cases hb
  | agg _ _ _ => cases hb
  | tup _ _ _ => cases hb
  | fn _ _ _ _ _ _ _ => cases hb
  | iface _ _ _ _ => cases hb
  | ptr i off b' n h => cases hb; exact ⟨_, h, by simp⟩
  | own i lo n size b' cap m ad h hl ha => cases hb; exact ⟨_, h, by simp⟩
  | ownNil i size h => cases hb; exact ⟨_, h, by simp⟩
  | elem i k off size b' cap m h hk => cases hb; exact ⟨_, h, by simp⟩
  | optT _ _ _ => cases hb
  | optF _ => cases hb

theorem headV_rep {w : World} {bs : List BK} {B : Nat} {xs : List SV} {vs : List Value} (h : RepL w bs B xs vs) : ∃ v, Rep w bs B (headV xs) v := by
  cases h with
  | nil => exact ⟨undef, .x _ _ (.junk _)⟩
  | cons x v l vs h h' => exact ⟨v, h⟩

theorem head_live {w : World} {bs : List BK} {B b : Nat} {xs : List SV} {vs : List Value} (hH : Hp w bs B (goneIdx hp Pd)) (h : RepL w bs B xs vs) (hb : blk (headV xs) = some b) : (∀ p ∈ Pd, p.idx ≠ b) ∧ getH (goneIdx hp Pd) b = getH hp b := by
  obtain ⟨v, hv⟩ := headV_rep h
  obtain ⟨y, h1, h2⟩ := blk_live hv hb
  exact live_not hH h1 h2

theorem store_blk {hp hp' : List HO} {n n' : Nat} {o : VO} (ho : o.isStore = true) {xs : List SV} (h : ∀ b, blk (headV xs) = some b → getH hp' b = getH hp b) : eff hp' n' o xs = eff hp n o xs := by
  cases o <;> simp only [VO.isStore, reduceCtorEq] at ho
  rename_i size
  rcases xs with _ | ⟨a, _ | ⟨v, _ | ⟨c, l⟩⟩⟩ <;> try rfl
  have key : storeAt hp' size (asCells v) a = storeAt hp size (asCells v) a := by
    cases a <;> try rfl
    case ptr i off => have := h i rfl; simp only [storeAt, this]
    case elem i k off sz => have := h i rfl; simp only [storeAt, this]
  simp only [eff, eStore, key]

theorem heavy_blk {hp hp' : List HO} {n : Nat} {o : VO} (hq : o.quiet = false) (ha : o.isAppend = false) {xs : List SV} (h : ∀ b, blk (headV xs) = some b → getH hp' b = getH hp b) : eff hp' n o xs = eff hp n o xs := by
  cases hs : o.isStore with
  | true => exact store_blk hs h
  | false => cases o <;> simp only [VO.quiet, VO.isStore, VO.isAppend, reduceCtorEq] at hq hs ha <;> rfl

end
end Go.Vx
