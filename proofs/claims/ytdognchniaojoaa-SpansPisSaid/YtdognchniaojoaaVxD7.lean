/- Regions that draw their order: one operation is sound, allocs pending. -/
import Derived.Test.YtdognchniaojoaaVxD6
set_option linter.all false
namespace Go.Vx
open Go.RowKit
section
variable {P : Program} {E : Env} {w0 : Cx} {rd : Option Nat} {Pd : List Pend} {A : S → Prop} {s : S}

theorem er_put {d : Option Nat} {x : SV} (hd : ∀ p ∈ Pd, d ≠ some p.slot) : er Pd (s.put d x) = (er Pd s).put d x := by
  cases d with
  | none => rfl
  | some n => simp only [er, S.put]; rw [junkSlots_set fun p hp e => hd p hp (by rw [e])]

theorem er_args : ∀ {xs : List X}, (∀ p ∈ Pd, p.slot ∉ slots xs) → (er Pd s).args xs = s.args xs
  | [], _ => rfl
  | x :: l, h => by
    simp only [S.args]
    rw [er_args fun p hp hm => h p hp (by simp [slots, hm])]
    cases x with
    | cn _ => rfl
    | tm n => simp only [S.x, er]; rw [getL_junkSlots fun p hp e => h p hp (by simp [slots, X.slot, e])]

theorem pend_put {d : Option Nat} {x : SV} (hd : ∀ p ∈ Pd, d ≠ some p.slot) (h : ∀ p ∈ Pd, getH s.hp p.idx = p.cells.ho ∧ setL s.fr p.slot (.ptr p.idx 0) = s.fr) :
    ∀ p ∈ Pd, getH (s.put d x).hp p.idx = p.cells.ho ∧ setL (s.put d x).fr p.slot (.ptr p.idx 0) = (s.put d x).fr := fun p hp => by
  refine ⟨by rw [put_hp]; exact (h p hp).1, ?_⟩
  cases d with
  | none => exact (h p hp).2
  | some n =>
    show setL (setL s.fr n x) p.slot _ = setL s.fr n x
    rw [setL_comm _ _ _ _ _ (fun e => hd p hp (by rw [e])), (h p hp).2]

theorem pend_lt (h : ∀ p ∈ Pd, getH s.hp p.idx = p.cells.ho ∧ setL s.fr p.slot (.ptr p.idx 0) = s.fr) : ∀ p ∈ Pd, p.idx < lenH s.hp := fun p hp => by
  rcases Nat.lt_or_ge p.idx (lenH s.hp) with h' | h'
  · exact h'
  · have := (h p hp).1
    rw [getH_ge _ _ h'] at this; exact absurd this.symm (AL.ho_ne _)

theorem wpOp_yes {ops : Array Oper} {κ : Kont} {i : Nat} {o : Oper} {a : Act} {w : World} {K : Act → World → Prop} (hi : ops[i]? = some o) (hw : Region.wanted o (yielded ops a.tmps) = true) (h : o.wpIn (Wd rd) 0 P a w K κ) : wpOpIn (Wd rd) 0 P ops κ i K a w := by
  unfold wpOpIn; simp only [hi, hw, if_true]; exact h

theorem wpOp_no {ops : Array Oper} {κ : Kont} {i : Nat} {o : Oper} {a : Act} {w : World} {K : Act → World → Prop} (hi : ops[i]? = some o) (hw : Region.wanted o (yielded ops a.tmps) = false) (h : K (a.put o.dst undef) w) : wpOpIn (Wd rd) 0 P ops κ i K a w := by
  unfold wpOpIn; simp only [hi, hw]; exact ⟨fun _ _ => trivial, h⟩

theorem vopOf_inv' {all : Array Oper} {o : Oper} {v : VOp} (h : vopOf P all o = some v) : ∃ ops, vop P o = some (v.op, ops) ∧ X.ofs ops = some v.xs ∧ (v.op.isCall = true → opIsCall o.op = true) ∧ v.dst = o.dst ∧
    ((o.guard = none ∧ v.g = none) ∨ ∃ j b g, o.guard = some (j, b) ∧ slotOf all j = some g ∧ v.g = some (g, b)) := by
  unfold vopOf at h
  obtain ⟨⟨vo, ops⟩, h1, h⟩ := Option.bind_eq_some_iff.1 h
  obtain ⟨xs, h2, h⟩ := Option.bind_eq_some_iff.1 h
  split at h
  · cases h
  · rename_i hne
    have hne : vo.isCall = true → opIsCall o.op = true := by simpa using hne
    split at h
    · cases h; exact ⟨ops, h1, h2, hne, rfl, .inl ⟨‹_›, rfl⟩⟩
    · obtain ⟨g, hg, rfl⟩ := Option.map_eq_some_iff.1 h
      exact ⟨ops, h1, h2, hne, rfl, .inr ⟨_, _, g, ‹_›, hg, rfl⟩⟩

theorem isCall_callee {o : VO} {xs : List SV} {r : FuncId × List SV} (h : callee E o xs = some r) : o.isCall = true := by
  unfold callee at h
  split at h <;> first | rfl | cases h

/-- One operation of a region that draws its order. -/
theorem dop_sound (hE : EnvOk P E) {all : Array Oper} {o : Oper} {v : VOp} {i : Nat} (hi : all[i]? = some o) (hv : vopOf P all o = some v) (hs1 : ∀ p ∈ Pd, p.slot ∉ v.reads) (hs2 : ∀ p ∈ Pd, v.dst ≠ some p.slot)
    (hs3 : v.op.isAppend = true → Pd = []) {κ : Kont} {a : Act} {sv : List Act} {w : World} (h : dopW E v A s) (hR : PR w0 Pd s a sv w) :
    wpOpIn (Wd rd) 0 P all κ i (fun a' w' => ∃ s', A s' ∧ PR w0 Pd s' a' sv w') a w := by
  obtain ⟨ops, h1, h2, h3, h4, h5⟩ := vopOf_inv' hv
  obtain ⟨hRl, hPd⟩ := hR
  obtain ⟨bs, hf, hsv, hH, hb, hoth⟩ := id hRl
  have hB : w0.heap.size ≤ w.heap.size := hb.size
  have hargs : (er Pd s).args v.xs = s.args v.xs := er_args fun p hp hm => hs1 p hp (by simp [VOp.reads, hm])
  have hx : RepL w bs w0.heap.size (s.args v.xs) (ops.map a.eval) := by rw [← hargs]; exact X_ofs hf h2
  have hlen : lenH (er Pd s).hp = lenH s.hp := lenH_gone Pd
  have hgs : ∀ g pol, v.g = some (g, pol) → getL (er Pd s).fr g = getL s.fr g := fun g pol hg => getL_junkSlots fun p hp e => hs1 p hp (by simp [VOp.reads, hg, e])
  have heq : ∀ (xs : List SV) (vs : List Value), v.op.quiet = true → RepL w bs w0.heap.size xs vs → eff (er Pd s).hp (lenH (er Pd s).hp) v.op xs = eff s.hp (lenH s.hp) v.op xs :=
    fun xs vs hq hxs => eff_blk hq fun b hb => (head_live hH hxs hb).2
  unfold dopW at h
  cases hq : v.op.quiet with
  | true =>
    rw [hq] at h
    simp only [quietW] at h
    cases hfe : fEff v s with
    | none => rw [hfe] at h; exact h.elim
    | some r =>
      obtain ⟨p, x⟩ := r
      rw [hfe] at h
      obtain ⟨hp, hA⟩ := h
      unfold fEff at hfe
      rcases h5 with ⟨hg, hvg⟩ | ⟨j, pol, g, hg, hsl, hvg⟩
      · rw [hvg] at hfe
        simp only at hfe
        cases he : eff s.hp (lenH s.hp) v.op (s.args v.xs) with
        | none => rw [he] at hfe; cases hfe
        | some e =>
          obtain ⟨q, y, u⟩ := e
          rw [he] at hfe
          cases u <;> try cases hfe
          rw [← heq _ _ hq hx] at he
          obtain ⟨r', val, w', bs', hrn, hr, k1, k2, k3, k4, k5⟩ := vop_ok (ρ := a.eval) h1 he hp hx (fun _ => rfl) (fun _ => rfl) hH hB
          refine wpOp_yes hi (by simp [Region.wanted, hg]) (wp_of_run (vop_nodefer h1) (hrn o.dst o.type o.pos o.after o.guard) hr ?_)
          refine ⟨_, hA, ?_, pend_put hs2 hPd⟩
          rw [er_put hs2, ← h4]
          exact upd_rel (e := ⟨p, x, .no⟩) (op := o.op) hf hsv hb hoth k1 k2 k3 k4 k5 v.dst
      · rw [hvg] at hfe
        simp only at hfe
        cases hgb : guardOf (getL s.fr g) pol with
        | none => rw [hgb] at hfe; cases hfe
        | some gb =>
          rw [hgb] at hfe
          simp only at hfe
          have hw := guard_ok (w := w) hf hg hsl (by rw [hgs g pol hvg]; exact hgb)
          cases he : eff s.hp (lenH s.hp) v.op (unoptsO v.op gb (s.args v.xs)).2 with
          | none => rw [he] at hfe; cases hfe
          | some e =>
            obtain ⟨q, y, u⟩ := e
            rw [he] at hfe
            cases u <;> try cases hfe
            obtain ⟨hp1, hp2⟩ := hp
            cases gb with
            | true =>
              have hx' := unoptsO_ok rfl hx hp1
              rw [← heq _ _ hq hx'] at he
              obtain ⟨r', val, w', bs', hrn, hr, k1, k2, k3, k4, k5⟩ := vop_ok (ρ := a.eval) h1 he (hp2 rfl) hx' (fun _ => rfl) (fun _ => rfl) hH hB
              refine wpOp_yes hi hw (wp_of_run (vop_nodefer h1) (hrn o.dst o.type o.pos o.after o.guard) hr ?_)
              refine ⟨_, hA, ?_, pend_put hs2 hPd⟩
              rw [er_put hs2, ← h4]
              exact upd_rel (e := ⟨q, .opt true y, .no⟩) (op := o.op) hf hsv hb hoth (.optT _ _ k1) k2 k3 k4 k5 v.dst
            | false =>
              refine wpOp_no hi hw ⟨_, hA, ?_, pend_put hs2 hPd⟩
              rw [er_put hs2, ← h4]
              exact put_rel hRl v.dst fun _ _ _ => .optF _
  | false =>
    rw [hq] at h
    simp only at h
    rcases h5 with ⟨hg, hvg⟩ | ⟨j, pol, g, hg, hsl, hvg⟩
    · rw [hvg] at h
      simp only at h
      unfold heavyW at h
      cases hc : callee E v.op (s.args v.xs) with
      | none =>
        rw [hc] at h
        simp only [effW] at h
        cases he : eff s.hp (lenH s.hp) v.op (s.args v.xs) with
        | none => rw [he] at h; exact h.elim
        | some e =>
          rw [he] at h
          obtain ⟨hp, hA⟩ := h
          have he2 : eff (er Pd s).hp (lenH (er Pd s).hp) v.op (s.args v.xs) = some e := by
            rw [hlen, ← he]
            cases ha : v.op.isAppend with
            | true => rw [hs3 ha]; rfl
            | false => exact heavy_blk hq ha fun b hb => (head_live hH hx hb).2
          obtain ⟨r', val, w', bs', hrn, hr, k1, k2, k3, k4, k5⟩ := vop_ok (ρ := a.eval) h1 he2 hp hx (fun _ => rfl) (fun _ => rfl) hH hB
          refine wpOp_yes hi (by simp [Region.wanted, hg]) (wp_of_run (vop_nodefer h1) (hrn o.dst o.type o.pos o.after o.guard) hr ?_)
          have hrel := upd_rel (e := e) (op := o.op) hf hsv hb hoth k1 k2 k3 k4 k5 v.dst
          refine ⟨_, hA, ?_⟩
          cases ha : v.op.isAppend with
          | true =>
            have := hs3 ha
            subst this
            rw [← h4]
            exact ⟨hrel, fun p hp => by cases hp⟩
          | false =>
            cases hst : v.op.isStore with
            | true =>
              obtain ⟨k, ho, hu, hk⟩ := store_upd hst he
              have hne := (head_live hH hx hk).1
              rw [hu] at hrel ⊢
              have hPd' : ∀ p ∈ Pd, getH (s.upd (.set k ho)).hp p.idx = p.cells.ho ∧ setL (s.upd (.set k ho)).fr p.slot (.ptr p.idx 0) = (s.upd (.set k ho)).fr := fun p hp =>
                ⟨by rw [← (hPd p hp).1]; exact getH_set_ne _ _ _ _ (fun e => hne p hp e.symm), (hPd p hp).2⟩
              refine ⟨?_, pend_put hs2 hPd'⟩
              rw [er_put hs2, ← h4]
              have : er Pd (s.upd (.set k ho)) = (er Pd s).upd (.set k ho) := by
                simp only [er, S.upd]; rw [goneIdx_set hne]
              rw [this]; exact hrel
            | false =>
              obtain ⟨ho, hu⟩ := new_upd hq hst ha he
              rw [hu] at hrel ⊢
              have hlt := pend_lt hPd
              have hPd' : ∀ p ∈ Pd, getH (s.upd (.new ho)).hp p.idx = p.cells.ho ∧ setL (s.upd (.new ho)).fr p.slot (.ptr p.idx 0) = (s.upd (.new ho)).fr := fun p hp =>
                ⟨by rw [← (hPd p hp).1]; exact getH_snoc_lt _ _ _ (hlt p hp), (hPd p hp).2⟩
              refine ⟨?_, pend_put hs2 hPd'⟩
              rw [er_put hs2, ← h4]
              have : er Pd (s.upd (.new ho)) = (er Pd s).upd (.new ho) := by
                simp only [er, S.upd]; rw [goneIdx_snoc hlt]
              rw [this]; exact hrel
      | some fy =>
        obtain ⟨f, ys⟩ := fy
        rw [hc] at h
        simp only [ctW] at h
        cases hct : E.ct f with
        | none => rw [hct] at h; exact h.elim
        | some c =>
          rw [hct] at h
          obtain ⟨hok, hen⟩ := hE.ct f c hct
          obtain ⟨vs, hys, hrun⟩ := call_ok hE.meth h1 (h3 (isCall_callee hc)) hc hx (fun _ => rfl) hen
          refine wpOp_yes hi (by simp [Region.wanted, hg]) (wp_of_enter (vop_nodefer h1) hrun ?_)
          refine (hok _ vs w _ (viewN_okV (hpV hH) 3 hys) h).mono ?_
          rintro e w' ⟨r, hs, val, bs2, ⟨hal, hA⟩, rfl, k1, k2, k3, k4⟩
          have hcr := call_rel (f := f) (c := c) hRl v.dst k1 k2 k3 k4 (by rw [hlen]; exact hal) _ fun _ h => h
          have hlt := pend_lt hPd
          have hPd' : ∀ p ∈ Pd, getH ({ fr := s.fr, saved := s.saved, hp := s.hp ++ shiftH (lenH s.hp) hs } : S).hp p.idx = p.cells.ho ∧ setL ({ fr := s.fr, saved := s.saved, hp := s.hp ++ shiftH (lenH s.hp) hs } : S).fr p.slot (.ptr p.idx 0) = ({ fr := s.fr, saved := s.saved, hp := s.hp ++ shiftH (lenH s.hp) hs } : S).fr := fun p hp =>
            ⟨by rw [← (hPd p hp).1]; exact grow_app _ _ _ (by rw [(hPd p hp).1]; exact AL.ho_ne _), (hPd p hp).2⟩
          refine ⟨_, hA, ?_, pend_put hs2 hPd'⟩
          rw [er_put hs2, ← h4]
          have : er Pd { fr := s.fr, saved := s.saved, hp := s.hp ++ shiftH (lenH s.hp) hs } = { fr := (er Pd s).fr, saved := (er Pd s).saved, hp := (er Pd s).hp ++ shiftH (lenH (er Pd s).hp) hs } := by
            rw [hlen]; simp only [er]; rw [goneIdx_app hlt]
          rw [this]
          rw [hlen] at hcr ⊢
          exact hcr
    · rw [hvg] at h
      simp only at h
      unfold heavyGW at h
      cases hgb : guardOf (getL s.fr g) pol with
      | none => rw [hgb] at h; exact h.elim
      | some gb =>
        rw [hgb] at h
        simp only [ctGW] at h
        have hw := guard_ok (w := w) hf hg hsl (by rw [hgs g pol hvg]; exact hgb)
        cases hct : ctOf E v.op with
        | none => rw [hct] at h; exact h.elim
        | some c =>
          rw [hct] at h
          obtain ⟨hp1, r, hA, hcs⟩ := h
          cases gb with
          | false =>
            refine wpOp_no hi hw ⟨_, hA, ?_, pend_put hs2 hPd⟩
            rw [er_put hs2, ← h4]
            exact put_rel hRl v.dst fun _ _ _ => .optF _
          | true =>
            obtain ⟨f, hf'⟩ : ∃ f, v.op = .call f := by
              cases hvo : v.op <;> rw [hvo] at hct <;> first | exact ⟨_, rfl⟩ | cases hct
            have hct' : E.ct f = some c := by rw [hf'] at hct; exact hct
            obtain ⟨hok, hen⟩ := hE.ct f c hct'
            obtain ⟨vs, hys, hrn⟩ := call_ok (ys := (unoptsO v.op true (s.args v.xs)).2) hE.meth h1 (h3 (by rw [hf']; rfl)) (by rw [hf']; rfl) (unoptsO_ok rfl hx hp1) (fun _ => rfl) hen
            refine wpOp_yes hi hw (wp_of_enter (vop_nodefer h1) hrn ?_)
            refine (hok _ vs w _ (viewN_okV (hpV hH) 3 hys) (hcs rfl)).mono ?_
            rintro e w' ⟨r', hs, val, bs2, ⟨rfl, rfl, hal⟩, rfl, k1, k2, k3, k4⟩
            have hcr := call_rel (f := f) (c := c) hRl v.dst k1 k2 k3 k4 (by rw [hlen]; exact hal) (.opt true (shift (lenH (er Pd s).hp) r')) fun _ h => .optT _ _ h
            have e0 : ({ fr := (er Pd s).fr, saved := (er Pd s).saved, hp := (er Pd s).hp ++ shiftH (lenH (er Pd s).hp) [] } : S) = er Pd s := by simp [shiftH]
            rw [e0] at hcr
            refine ⟨_, hA, ?_, pend_put hs2 hPd⟩
            rw [er_put hs2, ← h4, ← hlen]
            exact hcr

end
end Go.Vx
