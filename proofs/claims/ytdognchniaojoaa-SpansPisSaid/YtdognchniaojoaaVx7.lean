/- The executor is sound. -/
import Derived.Test.YtdognchniaojoaaVx6
set_option linter.all false
namespace Go.Vx
open Go.RowKit

/-- What holds of a contract's answer. -/
def CSat : CRes → (SV → List HO → Prop) → Prop
  | .fin r hs, k => k r hs
  | .pre p c, k => p ∧ CSat c k
  | .imp p c, k => p → CSat c k
  | .all α c, k => ∀ x : α, CSat (c x) k
  | .ex α c, k => ∃ x : α, CSat (c x) k

theorem CSat.mono {c : CRes} {k k' : SV → List HO → Prop} (h : CSat c k) (hk : ∀ r hs, k r hs → k' r hs) : CSat c k' := by
  induction c with
  | fin r hs => exact hk _ _ h
  | pre p c ih => exact ⟨h.1, ih h.2⟩
  | imp p c ih => exact fun hp => ih (h hp)
  | all α c ih => exact fun x => ih x (h x)
  | ex α c ih => exact let ⟨x, hx⟩ := h; ⟨x, ih x hx⟩

mutual
/-- A value leads into new memory alone. -/
def freshS : SV → Prop
  | .agg cs => freshL cs
  | .tup cs => freshL cs
  | .vs t _ n _ get => t = true ∧ ∀ k, k < n → freshL (get k)
  | .xp t cs => t = true ∧ freshL cs
  | .fn _ a b => freshL a ∧ freshL b
  | .iface _ v => freshS v
  | .opt _ v => freshS v
  | _ => True
def freshL : List SV → Prop
  | [] => True
  | x :: l => freshS x ∧ freshL l
end

def freshH : List HO → Prop
  | [] => True
  | .box cs :: l => freshL cs ∧ freshH l
  | .own _ _ n get :: l => (∀ k, k < n → freshL (get k)) ∧ freshH l
  | .gone :: l => freshH l

/-- A contract holds of function f. -/
def Ctr.ok (P : Program) (f : FuncId) (c : Ctr) : Prop :=
  ∀ (args : List SV) (vs : List Value) (w : World) (k : SV → List HO → Prop), XRepL w [] w.heap.size args vs → CSat (c.of args) k →
    Calls P f vs.toArray w fun e w' => ∃ r hs v bs, k r hs ∧ e = .returned v ∧ Rep w' bs w.heap.size r v ∧ Hp w' bs w.heap.size hs ∧ Below w.heap.size w w' ∧ (c.alias = false → freshS r ∧ freshH hs)

def Enterable (P : Program) (f : FuncId) : Prop := ∃ fn, P.funcs[f]? = some fn ∧ (fn.name == "runtime.NumGoroutine") = false ∧ fn.body.isNone = false

/-- What the executor knows of the program is so. -/
structure EnvOk (P : Program) (E : Env) : Prop where
  ct : ∀ f c, E.ct f = some c → c.ok P f ∧ Enterable P f
  fn : ∀ f vf, E.fn f = some vf → ∃ fn, P.funcs[f]? = some fn ∧ vfunc P fn = some vf ∧ Enterable P f
  meth : ∀ t m, E.meth t m = none
  mix : P.follows .mixedOrders = true

section
variable {P : Program} {w w' : World} {bs bs' : List BK} {B : Nat} {hp : List HO}

theorem run_callFunc {f : FuncId} {args : Array Value} (h : Enterable P f) : (callFunc f args).run P w = .ok (.enter f args) w := by
  obtain ⟨fn, h1, h2, h3⟩ := h
  simp only [callFunc, Sem.run_bind, run_program, Result.andThen_ok, h1, h2, h3, Bool.false_eq_true, if_false, Sem.run_pure]

/-! ### What a callee sees -/

mutual
theorem xview_ok {t0 : Bool} {B2 : Nat} {r : List SV → List SV} (ht0 : t0 = true → B2 ≤ B) : ∀ {s : SV} {v : Value}, XRep w bs B s v → XRep w [] B2 (view t0 hp r s) v
  | _, _, .int k n => .int k n
  | _, _, .bool b => .bool b
  | _, _, .val v => .val v
  | _, _, .nil => .nil
  | _, _, .junk v => .junk v
  | _, _, .agg cs vs h => .agg _ vs (xviewL_ok ht0 h)
  | _, _, .tup cs vs h => .tup _ vs (xviewL_ok ht0 h)
  | _, _, .fn f fs cs us vs h h' => .fn f _ _ us vs (xviewL_ok ht0 h) (xviewL_ok ht0 h')
  | _, _, .iface t x v h => .iface t _ v (xview_ok ht0 h)
  | _, _, .vs t z n size get a cap vals hz hc hn hcell h => .vs (andT t0 t) z n size _ a cap vals hz hc hn
      (fun k hk => by
        obtain ⟨ad, h1, h2, h3, h4, h5, h6⟩ := hcell k hk
        exact ⟨ad, h1, h2, free_nil, (fun h => by cases t0 <;> simp [andT] at h; exact Nat.le_trans (ht0 rfl) (h4 h)), h5, h6⟩)
      (fun k hk => xviewL_ok ht0 (h k hk))
  | _, _, .xp t cs ad vals hs hf ht hc h => .xp (andT t0 t) _ ad vals hs free_nil (fun h => by cases t0 <;> simp [andT] at h; exact Nat.le_trans (ht0 rfl) (ht h)) hc (xviewL_ok ht0 h)
theorem xviewL_ok {t0 : Bool} {B2 : Nat} {r : List SV → List SV} (ht0 : t0 = true → B2 ≤ B) : ∀ {l : List SV} {vs : List Value}, XRepL w bs B l vs → XRepL w [] B2 (viewL t0 hp r l) vs
  | _, _, .nil => .nil
  | _, _, .cons x v l vs h h' => .cons _ v _ vs (xview_ok ht0 h) (xviewL_ok ht0 h')
end

/-- What is asked of the blocks where values are looked at: only those that are there. -/
structure HpV (w : World) (bs : List BK) (B : Nat) (hp : List HO) : Prop where
  ent : ∀ (i : Nat) (x : BK), bs[i]? = some x → x ≠ .gone → HRep w bs B i (getH hp i)
  le : ∀ (i b cap m : Nat), bs[i]? = some (.blk b cap m) → m ≤ cap
  lo : ∀ (i b c n : Nat), bs[i]? = some (.blk b c n) → B ≤ b ∧ b < w.heap.size

theorem Hp.v (h : Hp w bs B hp) : HpV w bs B hp := ⟨fun i _ _ _ => h.ent i, fun _ _ _ _ hb => h.le hb, h.lo⟩

mutual
theorem view_ok {t0 : Bool} {B2 : Nat} {r : List SV → List SV} (ht0 : t0 = true → B2 ≤ B) (hH : HpV w bs B hp) (hr : ∀ l vs, RepL w bs B l vs → XRepL w [] B2 (r l) vs) : ∀ {s : SV} {v : Value}, Rep w bs B s v → XRep w [] B2 (view t0 hp r s) v
  | _, _, .x s v h => xview_ok ht0 h
  | _, _, .agg cs vs h => .agg _ vs (viewL_ok ht0 hH hr h)
  | _, _, .tup cs vs h => .tup _ vs (viewL_ok ht0 hH hr h)
  | _, _, .fn f fs cs us vs h h' => .fn f _ _ us vs (viewL_ok ht0 hH hr h) (viewL_ok ht0 hH hr h')
  | _, _, .iface t x v h => .iface t _ v (view_ok ht0 hH hr h)
  | _, _, .ptr i off b n hb => by
    have hent := hH.ent i _ hb (by simp)
    unfold view
    split
    · rename_i cs hg
      rw [hg] at hent
      obtain ⟨b', vs, T, h1, h2, h3⟩ := hent
      rw [hb] at h1; cases h1
      exact .xp t0 _ ⟨b, off, none⟩ (vs.toList.drop off) rfl free_nil (fun h => Nat.le_trans (ht0 h) (hH.lo _ _ _ _ hb).1) ⟨vs, T, _, h2, fun j v hj => by simpa using hj⟩ (hr _ _ (h3.drop off))
    · exact .junk _
  | _, _, .own i lo n size b cap m ad hb hl ha => by
    have hent := hH.ent i _ hb (by simp)
    have hm := hH.le _ _ _ _ hb
    unfold view
    split
    · rename_i z sz' m' get hg
      rw [hg] at hent
      rcases hent with ⟨h, _⟩ | ⟨b', cap', vs, T, h1, h2, h3, h4, h5, h6⟩
      · rw [hb] at h; cases h
      rw [hb] at h1; cases h1
      cases hbq : Nat.beq size sz' with
      | false => exact .junk _
      | true =>
      have := Nat.eq_of_beq_eq_true hbq
      subst this
      refine .vs t0 z n size _ (some ad) (cap - lo) (fun k => (vs.toList.drop ((lo + k) * size)).take size) (by rw [h2]; rfl) (by omega) (fun h => by cases h) (fun k hk => ?_) (fun k hk => ?_)
      · have had : ad = ⟨b, lo * size, none⟩ := by
          rcases ha with ha | ha
          · exact ha
          · omega
        subst had
        refine ⟨_, rfl, rfl, free_nil, (fun h => Nat.le_trans (ht0 h) (hH.lo _ _ _ _ hb).1), ?_, vs, T, _, h3, fun j v hj => ?_⟩
        · have : (lo + k) * size + size ≤ cap * size := by rw [← Nat.succ_mul]; exact Nat.mul_le_mul_right _ (by omega)
          simp [h4]; omega
        · rw [List.getElem?_take] at hj
          split at hj
          · rw [List.getElem?_drop] at hj
            simp only [← Nat.add_mul]
            simpa using hj
          · cases hj
      · rw [addLo_eq]; exact hr _ _ (h6 (lo + k) (by omega))
    · exact .junk _
  | _, _, .ownNil i size hb => by
    have hent := hH.ent i _ hb (by simp)
    unfold view
    split
    · rename_i z sz' m' get hg
      rw [hg] at hent
      rcases hent with ⟨_, hz, _⟩ | ⟨_, _, _, _, h, _⟩
      · cases hbq : Nat.beq size sz' with
        | false => exact .junk _
        | true => exact .vs t0 z 0 size _ none 0 (fun _ => []) (by rw [hz]; rfl) (Nat.le_refl _) (fun _ => ⟨rfl, rfl⟩) (fun k hk => by omega) (fun k hk => by omega)
      · rw [hb] at h; cases h
    · exact .junk _
  | _, _, .elem i k off size b cap m hb hkm => by
    have hent := hH.ent i _ hb (by simp)
    unfold view
    split
    · rename_i z sz' m' get hg
      rw [hg] at hent
      cases hbq : Nat.beq size sz' with
      | false => exact .junk _
      | true =>
      have := Nat.eq_of_beq_eq_true hbq
      subst this
      rcases hent with ⟨h, _⟩ | ⟨b', cap', vs, T, h1, h2, h3, h4, h5, h6⟩
      · rw [hb] at h; cases h
      rw [hb] at h1; cases h1
      refine .xp t0 _ ⟨b, k * size + off, none⟩ (((vs.toList.drop (k * size)).take size).drop off) rfl free_nil (fun h => Nat.le_trans (ht0 h) (hH.lo _ _ _ _ hb).1) ⟨vs, T, _, h3, fun j v hj => ?_⟩ (hr _ _ ((h6 k hkm).drop off))
      rw [List.getElem?_drop, List.getElem?_take] at hj
      split at hj
      · rw [List.getElem?_drop] at hj
        simp only [Nat.add_assoc]
        simpa using hj
      · cases hj
    · exact .junk _
  | _, _, .optT x v h => .junk _
  | _, _, .optF x => .junk _
theorem viewL_ok {t0 : Bool} {B2 : Nat} {r : List SV → List SV} (ht0 : t0 = true → B2 ≤ B) (hH : HpV w bs B hp) (hr : ∀ l vs, RepL w bs B l vs → XRepL w [] B2 (r l) vs) : ∀ {l : List SV} {vs : List Value}, RepL w bs B l vs → XRepL w [] B2 (viewL t0 hp r l) vs
  | _, _, .nil => .nil
  | _, _, .cons x v l vs h h' => .cons _ v _ vs (view_ok ht0 hH hr h) (viewL_ok ht0 hH hr h')
end

theorem junks_ok {B2 : Nat} : ∀ {l : List SV} {vs : List Value}, RepL w bs B l vs → XRepL w bs' B2 (junks l) vs
  | _, _, .nil => .nil
  | _, _, .cons x v l vs h h' => .cons _ v _ vs (.junk _) (junks_ok h')

theorem viewN_ok' {t0 : Bool} {B2 : Nat} (ht0 : t0 = true → B2 ≤ B) (hH : HpV w bs B hp) : ∀ (n : Nat) {l : List SV} {vs : List Value}, RepL w bs B l vs → XRepL w [] B2 (viewN t0 hp n l) vs
  | 0, _, _, h => junks_ok h
  | n + 1, _, _, h => viewL_ok ht0 hH (fun _ _ h => viewN_ok' ht0 hH n h) h

theorem viewN_okV {B2 : Nat} (hH : HpV w bs B hp) (n : Nat) {l : List SV} {vs : List Value} (h : RepL w bs B l vs) : XRepL w [] B2 (viewN false hp n l) vs := viewN_ok' (fun h => by cases h) hH n h

theorem viewN_ok {B2 : Nat} (hH : Hp w bs B hp) (n : Nat) {l : List SV} {vs : List Value} (h : RepL w bs B l vs) : XRepL w [] B2 (viewN false hp n l) vs := viewN_okV hH.v n h

theorem expo_ok (hH : Hp w bs B hp) {r : SV} {v : Value} (h : Rep w bs B r v) : XRep w [] B (expo hp r) v :=
  view_ok (fun _ => Nat.le_refl _) hH.v (fun _ _ h => viewN_ok' (fun _ => Nat.le_refl _) hH.v 2 h) h

end
end Go.Vx
