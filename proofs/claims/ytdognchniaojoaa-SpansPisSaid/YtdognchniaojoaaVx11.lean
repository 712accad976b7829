/- The executor is sound: the theorem. -/
import Derived.Test.YtdognchniaojoaaVx10
set_option linter.all false
namespace Go.Vx
open Go.RowKit
section
variable {P : Program} {E : Env} {Q : SV → List HO → Prop} {vr : List VR} {w0 : Cx}

theorem lenH_app : ∀ (a b : List HO), lenH (a ++ b) = lenH a + lenH b
  | [], b => by simp [lenH]
  | _ :: a, b => by simp [lenH, lenH_app a b]; omega
theorem getH_app : ∀ (a b : List HO) (i : Nat), getH (a ++ b) i = if i < lenH a then getH a i else getH b (i - lenH a)
  | [], b, i => by simp [lenH]
  | x :: a, b, 0 => by simp [lenH, getH]
  | x :: a, b, i + 1 => by
    show getH (a ++ b) i = _
    rw [getH_app a b i]
    by_cases h : i < lenH a
    · rw [if_pos h, if_pos (show i + 1 < lenH (x :: a) by simp only [lenH]; omega)]; rfl
    · rw [if_neg h, if_neg (show ¬ i + 1 < lenH (x :: a) by simp only [lenH]; omega)]
      congr 1; simp only [lenH]; omega

def shift1 (d : Nat) : HO → HO
  | .box cs => .box (shiftL d cs)
  | .own z sz n get => .own z sz n fun k => shiftL d (get k)
  | .gone => .gone

theorem getH_shift (d : Nat) : ∀ (hs : List HO) (j : Nat), getH (shiftH d hs) j = shift1 d (getH hs j)
  | [], j => by cases j <;> rfl
  | h :: l, 0 => by cases h <;> rfl
  | h :: l, j + 1 => by cases h <;> simpa [shiftH, getH] using getH_shift d l j
theorem lenH_shift (d : Nat) : ∀ (hs : List HO), lenH (shiftH d hs) = lenH hs
  | [] => rfl
  | h :: l => by cases h <;> simp [shiftH, lenH, lenH_shift d l]

theorem freshH_get : ∀ (hs : List HO), freshH hs → ∀ i, match getH hs i with | .box cs => freshL cs | .own _ _ n get => ∀ k, k < n → freshL (get k) | .gone => True
  | [], _, i => by cases i <;> trivial
  | .box cs :: l, h, 0 => h.1
  | .own z sz n get :: l, h, 0 => h.1
  | .gone :: l, h, 0 => trivial
  | .box cs :: l, h, i + 1 => freshH_get l h.2 i
  | .own z sz n get :: l, h, i + 1 => freshH_get l h.2 i
  | .gone :: l, h, i + 1 => freshH_get l h i

/-- What a call left, told to the caller. -/
theorem app_res {w w' : World} {bs bs2 : List BK} {B : Nat} {hp hs : List HO} (hH : Hp w bs B hp) (hB : B ≤ w.heap.size) (hH2 : Hp w' bs2 w.heap.size hs) (hb : Below w.heap.size w w') (hfr : Apart bs (freshH hs)) :
    Hp w' (bs ++ bs2) B (hp ++ shiftH (lenH hp) hs) ∧ Keeps w bs w' (bs ++ bs2) ∧ Stays none bs (bs ++ bs2) := by
  have hlo : ∀ (i b c n : Nat), bs[i]? = some (.blk b c n) → b < w.heap.size := fun i b c n h => (hH.lo i b c n h).2
  have hk : Keeps w bs w' (bs ++ bs2) := by
    intro b hf o ho
    have hbs : b < w.heap.size := (Array.getElem?_eq_some_iff.1 ho).1
    refine ⟨by rw [hb.block b hbs]; exact ho, free_app hf fun i b' c n hi he => ?_⟩
    have := (hH2.lo i b' c n hi).1; omega
  have hst : ∀ e, Stays e bs (bs ++ bs2) := fun e i y _ h _ => by rw [List.getElem?_append_left (List.getElem?_eq_some_iff.1 h).1]; exact h
  have hlen := hH.len
  refine ⟨⟨by rw [lenH_app, lenH_shift, List.length_append, hlen, hH2.len], fun i => ?_, fun i j b c n c' n' h1 h2 => ?_, fun i b c n h1 => ?_⟩, hk, hst none⟩
  · rw [getH_app]
    split
    · rename_i hi
      refine (hH.ent i).keep hk (hst none) (by rw [List.getElem?_append_left (by rw [hlen]; exact hi)]) (fun b c n hbi => hb.block b (hlo i b c n hbi))
    · rename_i hi
      obtain ⟨j, rfl⟩ : ∃ j, i = lenH hp + j := ⟨i - lenH hp, by omega⟩
      rw [Nat.add_sub_cancel_left, getH_shift]
      have hent := hH2.ent j
      have hfj : Apart bs (match getH hs j with | .box cs => freshL cs | .own _ _ n get => ∀ k, k < n → freshL (get k) | .gone => True) := hfr.imp id fun h => freshH_get hs h j
      have hget : ∀ x, bs2[j]? = some x → (bs ++ bs2)[lenH hp + j]? = some x := fun x hx => by rw [← hlen]; exact app_get hx
      cases hg : getH hs j with
      | gone =>
        rw [hg] at hent
        rcases hent with h | h
        · exact .inl (hget _ h)
        · right
          rw [List.getElem?_eq_none_iff] at h ⊢
          rw [List.length_append]; omega
      | box cs =>
        rw [hg] at hent hfj
        obtain ⟨b, vs, T, h1, h2, h3⟩ := hent
        exact ⟨b, vs, T, hget _ h1, h2, by rw [← hlen]; exact shiftL_ok hB hlo h3 hfj⟩
      | own z sz n get =>
        rw [hg] at hent hfj
        rcases hent with ⟨h1, h2, h3⟩ | ⟨b, cap, vs, T, h1, h2, h3, h4, h5, h6⟩
        · exact .inl ⟨hget _ h1, h2, h3⟩
        · exact .inr ⟨b, cap, vs, T, hget _ h1, h2, h3, h4, h5, fun k hk' => by rw [← hlen]; exact shiftL_ok hB hlo (h6 k hk') (hfj.imp id fun h => h k hk')⟩
  · rw [List.getElem?_append] at h1 h2
    split at h1 <;> split at h2
    · exact hH.inj i j b c n c' n' h1 h2
    · have := hlo i b c n h1; have := (hH2.lo _ _ _ _ h2).1; omega
    · have := hlo j b c' n' h2; have := (hH2.lo _ _ _ _ h1).1; omega
    · have := hH2.inj _ _ _ _ _ _ _ h1 h2; omega
  · rw [List.getElem?_append] at h1
    split at h1
    · have := hH.lo i b c n h1; have := hb.size; omega
    · have := hH2.lo _ b c n h1; omega

theorem vop_nodefer {o : Oper} {r : VO × List Operand} (h : vop P o = some r) : ∀ c, o.op ≠ .defer c := by
  intro c hc
  obtain ⟨dst, op, type, pos, after, guard⟩ := o
  simp only at hc
  subst hc
  cases h

section
variable {rd : Option Nat}

theorem wpList_op {ops : Array Oper} {κ : Kont} {a : Act} {w : World} {o : Oper} {rest : List Oper} (hw : Region.wanted o (yielded ops a.tmps) = true)
    (h : o.wpIn (Wd rd) 0 P a w (wpListIn (Wd rd) 0 P ops κ rest) κ) : wpListIn (Wd rd) 0 P ops κ (o :: rest) a w := by
  unfold wpListIn
  rw [if_pos hw]; exact h

theorem wpList_not {ops : Array Oper} {κ : Kont} {a : Act} {w : World} {o : Oper} {rest : List Oper} (hw : Region.wanted o (yielded ops a.tmps) = false)
    (h : wpListIn (Wd rd) 0 P ops κ rest (a.put o.dst undef) w) : wpListIn (Wd rd) 0 P ops κ (o :: rest) a w := by
  unfold wpListIn
  rw [if_neg (by rw [hw]; simp)]; exact ⟨fun _ _ => trivial, h⟩

theorem wp_of_run {o : Oper} {a : Act} {w w' : World} {r : Next} {v : Value} {next : Act → World → Prop} {κ : Kont} (hnd : ∀ c, o.op ≠ .defer c) (hrun : (execOp a.eval o).run P w = .ok r w') (hr : r = .value v ∨ (r = .skip ∧ v = undef)) (h : next (a.put o.dst v) w') : o.wpIn (Wd rd) 0 P a w next κ := by
  unfold Oper.wpIn
  rw [Oper.semAt_eq _ _ _ hnd, hrun]
  refine ⟨fun _ _ => trivial, ?_⟩
  rcases hr with rfl | ⟨rfl, rfl⟩ <;> exact h

theorem wp_of_enter {o : Oper} {a : Act} {w : World} {f : FuncId} {args : Array Value} {next : Act → World → Prop} {κ : Kont} (hnd : ∀ c, o.op ≠ .defer c) (hrun : (execOp a.eval o).run P w = .ok (.enter f args) w)
    (h : Calls P f args w fun | .returned v, w'' => next (a.put o.dst v) w'' | .panicked chain, w'' => κ (.panic chain) a w'' | .outgrown, _ => LetsOut κ) : o.wpIn (Wd rd) 0 P a w next κ := by
  unfold Oper.wpIn
  rw [Oper.semAt_eq _ _ _ hnd, hrun]
  exact ⟨fun _ _ => trivial, fun h => (by cases h), callsIn_wd h⟩

end

/-- The guard of an operation is as the executor says. -/
theorem guard_ok {ops : Array Oper} {o : Oper} {a : Act} {w : World} {bs : List BK} {B j g : Nat} {pol gb : Bool} {s : S} (hf : RepL w bs B s.fr a.tmps.toList) (hg : o.guard = some (j, pol)) (hs : slotOf ops j = some g) (h : guardOf (getL s.fr g) pol = some gb) :
    Region.wanted o (yielded ops a.tmps) = gb := by
  have hr := hf.get g (d := undef)
  have hy : yielded ops a.tmps j = match a.tmps[g]? with | some (.bool b) => some b | _ => none := by
    unfold yielded
    unfold slotOf at hs
    rw [hs]; rfl
  have hget : a.tmps.toList.getD g undef = (a.tmps[g]?).getD undef := by simp [List.getD]
  rw [hget] at hr
  simp only [Region.wanted, hg, hy]
  have hb : ∀ b, (a.tmps[g]?).getD undef = .bool b → a.tmps[g]? = some (.bool b) := by
    intro b hb
    cases hx : a.tmps[g]? with
    | none => rw [hx] at hb; cases hb
    | some x => rw [hx] at hb; simp only [Option.getD_some] at hb; rw [hb]
  have hu : (a.tmps[g]?).getD undef = undef → ∀ b, a.tmps[g]? ≠ some (.bool b) := by
    intro hu b hb
    rw [hb] at hu; cases hu
  generalize (a.tmps[g]?).getD undef = u at hr hb hu
  generalize getL s.fr g = v at h hr
  cases v <;> simp only [guardOf, reduceCtorEq, Option.some.injEq] at h
  · rename_i b
    have h1 := hb b hr.bool_inv
    subst h
    rw [h1]
    cases b <;> cases pol <;> rfl
  · rename_i c y
    cases y <;> simp only [guardOf, reduceCtorEq, Option.some.injEq] at h
    rename_i b
    subst h
    cases hr with
    | x _ _ h => cases h
    | optT _ _ h =>
      have h1 := hb b h.bool_inv
      rw [h1]
      cases b <;> cases pol <;> rfl
    | optF _ =>
      have h1 := hu rfl
      simp only [Bool.false_and]
      cases hx : a.tmps[g]? with
      | none => rfl
      | some x => cases x <;> first | rfl | exact absurd hx (h1 _)

end
end Go.Vx
