/- The executor is sound: the main theorem, and how a contract is proved with it. -/
import Derived.Test.YtdognchniaojoaaVxD12
set_option linter.all false
namespace Go.Vx
open Go.RowKit
section
variable {P : Program} {E : Env} {Q : SV → List HO → Prop} {vr : List VR} {w0 : World} {rd : Option Nat} {ks : List (Nat × Obj)}

/-! ### Regions that draw their order -/

theorem dop_run {n : Nat} {v : VOp} {K : List It} {s : S} (h : dop E (run E Q vr n) v K s) : dopW E v (fun s' => ∃ m, m ≤ n ∧ run E Q vr m K s') s := by
  obtain ⟨d, g, op, xs⟩ := v
  cases g with
  | none =>
    simp only [dop] at h
    unfold dopW
    simp only
    cases hq : op.quiet with
    | true =>
      rw [hq] at h
      simp only [dpl, dq] at h
      simp only [fEff]
      cases he : eff s.hp (lenH s.hp) op (s.args xs) with
      | none => rw [he] at h; exact h.elim
      | some e =>
        obtain ⟨p, x, u⟩ := e
        rw [he] at h
        cases u <;> try exact h.elim
        exact ⟨h.1, n, Nat.le_refl _, h.2⟩
    | false =>
      rw [hq] at h
      simp only [dpl, dcl] at h
      simp only [heavyW]
      cases hc : callee E op (s.args xs) with
      | none =>
        rw [hc] at h
        simp only [effK] at h
        simp only [effW]
        cases he : eff s.hp (lenH s.hp) op (s.args xs) with
        | none => rw [he] at h; exact h.elim
        | some e => rw [he] at h; exact ⟨h.1, n, Nat.le_refl _, h.2⟩
      | some fy =>
        obtain ⟨f, ys⟩ := fy
        rw [hc] at h
        simp only [dct] at h
        simp only [ctW]
        cases hct : E.ct f with
        | none => rw [hct] at h; exact h.elim
        | some c =>
          rw [hct] at h
          exact (run_res n h).mono fun r hs ⟨m, hm, h1, h2⟩ => ⟨h1, m, by omega, h2⟩
  | some gp =>
    obtain ⟨g, pol⟩ := gp
    simp only [dop, dgd] at h
    unfold dopW
    simp only
    cases hgd : guardOf (getL s.fr g) pol with
    | none => rw [hgd] at h; exact h.elim
    | some gb =>
      rw [hgd] at h
      simp only [dgq] at h
      cases hq : op.quiet with
      | true =>
        rw [hq] at h
        simp only [effG] at h
        simp only [fEff, hgd]
        cases he : eff s.hp (lenH s.hp) op (unoptsO op gb (s.args xs)).2 with
        | none => rw [he] at h; exact h.elim
        | some e =>
          obtain ⟨p, x, u⟩ := e
          rw [he] at h
          cases u <;> try exact h.elim
          exact ⟨⟨h.1, h.2.1⟩, n, Nat.le_refl _, h.2.2⟩
      | false =>
        rw [hq] at h
        simp only [dctG] at h
        simp only [heavyGW, hgd, ctGW]
        cases hct : ctOf E op with
        | none => rw [hct] at h; exact h.elim
        | some c =>
          rw [hct] at h
          obtain ⟨hp, h⟩ := h
          obtain ⟨m, r, hm, h1, h2⟩ := run_resG n h
          exact ⟨hp, r, ⟨m, by omega, h1⟩, h2⟩

theorem dops_run : ∀ (l : List DOp) (n : Nat) {K : List It} {s : S}, run E Q vr n (.dops l :: K) s → dopsP E (fun s' => ∃ m, m < n ∧ run E Q vr m K s') l s
  | _, 0, _, _, h => h.elim
  | [], n + 1, _, _, h => ⟨n, Nat.lt_succ_self n, h⟩
  | ⟨v, chk⟩ :: l, n + 1, _, _, h => ⟨h.1, dopW_mono (fun _ ⟨m, hm, h'⟩ => dopsP_mono l (fun _ ⟨m', hm', h''⟩ => ⟨m', by omega, h''⟩) (dops_run l m h')) (dop_run h.2)⟩
where
  dopsP_mono {A B : S → Prop} : ∀ (l : List DOp), (∀ s, A s → B s) → ∀ {s : S}, dopsP E A l s → dopsP E B l s
  | [], h, _, hs => h _ hs
  | ⟨_, _⟩ :: l, h, _, hs => ⟨hs.1, dopW_mono (fun _ h' => dopsP_mono l h h') hs.2⟩

/-! ### Frames -/

theorem in_frame {fn : Func} {c : Code} {b : VC} {f : FuncId} (hf : P.funcs[f]? = some fn) (hbody : fn.body = some c) {R : Ending → World → Prop} {args : Array Value} {w : World}
    (h : (Exit.then (c.wpIn (Wd none) 0 P (bodyPostM (Wd none) 0 P fn R)) (bodyPostM (Wd none) 0 P fn R)) .normal { tmps := args ++ Array.replicate (fn.ntmps - args.size) undef, defers := [] } w) : CallsIn (Wd none) 0 P f args w R :=
  callsIn_of_wp_marks hf hbody trivial h

theorem vfunc_inv {fn : Func} {vf : VF} (h : vfunc P fn = some vf) : ∃ c, fn.body = some c ∧ vcode P c = some vf.body ∧ vress P fn.results.toList = some vf.res ∧ vf.ntmps = fn.ntmps := by
  unfold vfunc at h
  obtain ⟨c, hbody, h⟩ := Option.bind_eq_some_iff.1 h
  obtain ⟨b, hcode, h⟩ := Option.bind_eq_some_iff.1 h
  obtain ⟨res, hres, rfl⟩ := Option.map_eq_some_iff.1 h
  exact ⟨c, hbody, hcode, hres, rfl⟩

/-- The parameters of a round. -/
theorem putPs_ok {w : World} {bs : List BK} {B : Nat} : ∀ {ps : List Nat} {ys fr : List SV} {vs : List Value} {tmps : Array Value}, RepL w bs B fr tmps.toList → RepL w bs B ys vs → RepL w bs B (putPs fr ps ys) ((ps.zip vs).foldl (fun t (p : Nat × Value) => t.setIfInBounds p.1 p.2) tmps).toList
  | [], ys, fr, vs, tmps, h, _ => by cases ys <;> simpa [putPs] using h
  | p :: ps, _, fr, _, tmps, h, .nil => by simpa [putPs] using h
  | p :: ps, _, fr, _, tmps, h, .cons y v ys vs h1 h2 => by
    simp only [putPs, List.zip_cons_cons, List.foldl_cons]
    refine putPs_ok ?_ h2
    rw [Array.toList_setIfInBounds]
    exact h.set p h1

/-- One operation that is there, no guard in the way. -/
theorem op_sound (hE : EnvOk P E) {fn0 : Func} {R0 : Ending → World → Prop} {n : Nat} (ih : ∀ m, m ≤ n → ∀ (K : List It) (s : S), run E Q vr m K s → ∀ (sv : List Act) (ks : List (Nat × Obj)) (rd : Option Nat) (κ : Kont) (a : Act) (w : World), KRel P w0 (bodyPostM (Wd none) 0 P fn0 R0) K sv ks rd κ → Rl ⟨w0, ks⟩ s a sv w → κ .normal a w)
    {all : Array Oper} {o : Oper} {rest : List Oper} {l : List VOp} {vo : VO} {ops : List Operand} {xs : List SV} {K : List It} {s : S} {sv : List Act} {κ : Kont} {a : Act} {w : World}
    (hv : vop P o = some (vo, ops)) (hcc : vo.isCall = true → opIsCall o.op = true) (hrest : vopsOf P all rest = some l) (hx : ∀ bs, RepL w bs w0.heap.size s.fr a.tmps.toList → RepL w bs w0.heap.size xs (ops.map a.eval))
    (h : runOp E (run E Q vr n) o.dst vo xs (.ops l :: K) s) (hk : KRel P w0 (bodyPostM (Wd none) 0 P fn0 R0) K sv ks rd κ) (hR : Rl ⟨w0, ks⟩ s a sv w) : o.wpIn (Wd rd) 0 P a w (wpListIn (Wd rd) 0 P all κ rest) κ := by
  have hK : KRel P w0 (bodyPostM (Wd none) 0 P fn0 R0) (.ops l :: K) sv ks rd (Exit.then (wpListIn (Wd rd) 0 P all κ rest) κ) := .ops all rest l K sv ks rd κ hrest hk
  obtain ⟨bs, hf, hsv, hH, hb, hoth⟩ := id hR
  have hxx := hx bs hf
  have hB : w0.heap.size ≤ w.heap.size := hb.size
  have hnd := vop_nodefer hv
  unfold runOp at h
  cases hc : callee E vo xs with
  | none =>
    rw [hc] at h
    simp only [opK] at h
    cases hy : yld vo xs with
    | some ly =>
      obtain ⟨l', ys⟩ := ly
      rw [hy] at h
      simp only [yldK] at h
      have hvo : vo = .callv ∧ xs = .fn (.yield l') [] [] :: ys := by
        unfold yld at hy
        split at hy
        · split at hy
          · cases hy; exact ⟨rfl, rfl⟩
          · cases hy
        · cases hy
      obtain ⟨rfl, rfl⟩ := hvo
      cases hfr : findR (.ops l :: K) with
      | none => rw [hfr] at h; exact h.elim
      | some x =>
        obtain ⟨l2, ps, va, vb⟩ := x
        rw [hfr] at h
        cases hss : s.saved with
        | nil => rw [hss] at h; exact h.elim
        | cons fr svs =>
          rw [hss] at h
          obtain ⟨⟨rfl, hlen⟩, hrun⟩ := h
          obtain ⟨q, sa, sv', ks', rfl, rfl, rfl, rfl, htm, hva, hvb⟩ := findR_ok hfr hK
          obtain ⟨c, hop, hcall⟩ := vop_call hv (hcc rfl) rfl
          rcases hcall with ⟨_, h1, _⟩ | ⟨x, _, hcal, rfl⟩ | ⟨_, _, h1, _⟩
          · cases h1
          · obtain ⟨v, vs, hvs, g1, g2⟩ := hxx.cons_inv
            simp only [List.map_cons, List.cons.injEq] at hvs
            obtain ⟨hv1, rfl⟩ := hvs
            obtain ⟨us, us', rfl, g3, g4⟩ := g1.fn_inv
            cases g3.nil_inv; cases g4.nil_inv
            have hrec := rl_record_at hR
            have hsz : (#[] ++ c.args.map a.eval ++ #[] : Array Value).size = q.ps.length := by
              have := g2.length
              simp only [List.length_map, Array.length_toList] at this
              have e2 : ∀ l : List Nat, lenN l = l.length := fun l => by induction l with | nil => rfl | cons _ l ih => simp [lenN, ih]
              rw [e2] at hlen
              simp; omega
            have hex : (execOp a.eval o).run P w = .ok (.round l' q.fn ((q.ps.toArray.zip (#[] ++ c.args.map a.eval ++ #[])).foldl (fun tmps (t, a) => tmps.setIfInBounds t a) q.tmps) q.ca q.cb) w := by
              obtain ⟨dst, op, type, pos, after, guard⟩ := o
              simp only at hop
              subst hop
              simp only [execOp, resolve, hcal, hv1, Deferred.ofValue, Sem.run_bind, Sem.run_pure, Result.andThen_ok, invoke]
              exact run_yield hrec (by simpa [Rec.at] using hsz)
            unfold Oper.wpIn
            rw [Oper.semAt_eq _ _ _ hnd, hex]
            refine ⟨fun _ _ => trivial, fun h => (by cases h), ?_⟩
            refine roundIn_of_wpIn trivial ?_
            refine ih n (Nat.le_refl _) _ _ hrun (a :: sa :: sv') _ _ _ { tmps := _, defers := [] } _ (.code q.ca va _ _ _ (some l') _ hva (.rbeg l' q _ _ ks' _ (.code q.cb vb _ _ _ (some l') _ hvb (.rend o.dst l' q a _ _ ks' _ _ (fun v w h => h) hK)))) ?_
            rw [hss] at hsv
            cases hsv with
            | cons _ _ _ _ k1 k2 =>
              refine ⟨bs, ?_, .cons _ _ _ _ hf (by rw [hss]; exact .cons _ _ _ _ k1 k2), hH, hb, hoth.push⟩
              have := putPs_ok (ps := q.ps) k1 g2
              rw [htm]
              have e : q.ps.toArray.zip (#[] ++ c.args.map a.eval ++ #[]) = (q.ps.zip (c.args.toList.map a.eval)).toArray := by apply Array.ext'; simp
              rw [e]
              simpa using this
          · cases h1
    | none =>
    rw [hy] at h
    simp only [yldK, effK] at h
    cases he : eff s.hp (lenH s.hp) vo xs with
    | none => rw [he] at h; exact h.elim
    | some e =>
      rw [he] at h
      obtain ⟨r, v, w', bs', hrun, hr, h1, h2, h3, h4, h5⟩ := vop_ok (ρ := a.eval) hv he h.1 hxx (fun _ => rfl) (fun _ => rfl) hH hB
      refine wp_of_run hnd (hrun o.dst o.type o.pos o.after o.guard) hr ?_
      exact ih n (Nat.le_refl _) _ _ h.2 sv _ _ _ _ _ hK (upd_rel (op := o.op) hf hsv hb hoth h1 h2 h3 h4 h5 o.dst)
  | some fy =>
    obtain ⟨f, ys⟩ := fy
    rw [hc] at h
    have hcall : vo.isCall = true := by
      unfold callee at hc
      split at hc <;> first | rfl | cases hc
    simp only [opK, callK] at h
    cases hct : E.ct f with
    | some c =>
      rw [hct] at h
      obtain ⟨hok, hen⟩ := hE.ct f c hct
      obtain ⟨vs, hys, hrun⟩ := call_ok hE.meth hv (hcc hcall) hc hxx (fun _ => rfl) hen
      refine wp_of_enter hnd hrun ?_
      refine (hok _ vs w _ (viewN_ok hH 3 hys) (run_res n h)).mono ?_
      rintro e w' ⟨r, hs, v, bs2, ⟨m, hm, hal, hrun'⟩, rfl, h1, h2, h3, h4⟩
      exact ih m (by omega) _ _ hrun' sv _ _ _ _ _ hK (call_rel (f := f) (c := c) hR o.dst h1 h2 h3 h4 hal _ fun _ h => h)
    | none =>
      rw [hct] at h
      simp only [inlK] at h
      cases hfn : E.fn f with
      | none => rw [hfn] at h; exact h.elim
      | some vf =>
        rw [hfn] at h
        obtain ⟨fn, hfs, hvf, hen⟩ := hE.fn f vf hfn
        obtain ⟨vs, hys, hrun⟩ := call_ok hE.meth hv (hcc hcall) hc hxx (fun _ => rfl) hen
        refine wp_of_enter hnd hrun ?_
        obtain ⟨c, hbody, hcode, hres, hnt⟩ := vfunc_inv hvf
        refine calls_of_wd (n := 0) (in_frame (b := vf.body) hfs hbody ?_)
        refine ih n (Nat.le_refl _) _ _ h (a :: sv) _ _ _ _ _ (.code c vf.body _ _ _ _ _ hcode (.frame o.dst vf.res fn a _ _ _ _ _ _ hres (fun v w h => h) hK)) ?_
        refine ⟨bs, ?_, .cons _ _ _ _ hf hsv, hH, hb, hoth.push⟩
        have := padL_ok (n := fn.ntmps) hys
        rw [hnt]
        simpa using this

theorem vopsOf_cons {all : Array Oper} {rest : List Oper} {v : VOp} {l : List VOp} (h : vopsOf P all rest = some (v :: l)) : ∃ o r, rest = o :: r ∧ vopOf P all o = some v ∧ vopsOf P all r = some l := by
  cases rest with
  | nil => cases h
  | cons o r =>
    simp only [vopsOf] at h
    obtain ⟨x, hx, h⟩ := Option.bind_eq_some_iff.1 h
    obtain ⟨y, hy, h⟩ := Option.map_eq_some_iff.1 h
    cases h
    exact ⟨o, r, rfl, hx, hy⟩

theorem vopsOf_nil {all : Array Oper} {rest : List Oper} (h : vopsOf P all rest = some []) : rest = [] := by
  cases rest with
  | nil => rfl
  | cons o r =>
    simp only [vopsOf] at h
    obtain ⟨x, hx, h⟩ := Option.bind_eq_some_iff.1 h
    obtain ⟨y, hy, h⟩ := Option.map_eq_some_iff.1 h
    cases h

theorem vopOf_inv {all : Array Oper} {o : Oper} {v : VOp} (h : vopOf P all o = some v) : ∃ ops, vop P o = some (v.op, ops) ∧ X.ofs ops = some v.xs ∧ (v.op.isCall = true → opIsCall o.op = true) ∧ v.dst = o.dst ∧
    ((o.guard = none ∧ v.g = none) ∨ ∃ j b g, o.guard = some (j, b) ∧ slotOf all j = some g ∧ v.g = some (g, b)) := by
  unfold vopOf at h
  obtain ⟨⟨vo, ops⟩, h1, h⟩ := Option.bind_eq_some_iff.1 h
  obtain ⟨xs, h2, h⟩ := Option.bind_eq_some_iff.1 h
  split at h
  · cases h
  · rename_i hne
    have hne : vo.isCall = true → opIsCall o.op = true := by simpa using hne
    split at h
    · cases h; exact ⟨ops, h1, h2, hne, rfl, .inl ⟨‹_›, rfl⟩⟩
    · obtain ⟨g, hg, rfl⟩ := Option.map_eq_some_iff.1 h
      exact ⟨ops, h1, h2, hne, rfl, .inr ⟨_, _, g, ‹_›, hg, rfl⟩⟩

theorem vcode_region {id : Nat} {ops : Array Oper} {l : List VOp} (h : vopsOf P ops ops.toList = some l) : vcode P (.region id ops false) = some (.region l) := by
  simp [vcode, h]

/-- THE EXECUTOR IS SOUND. -/
theorem run_sound (hE : EnvOk P E) {fn0 : Func} {R0 : Ending → World → Prop} (hres : vress P fn0.results.toList = some vr)
    (hR0 : ∀ r hp v w' bs, Q r hp → Rep w' bs w0.heap.size r v → Hp w' bs w0.heap.size hp → Below w0.heap.size w0 w' → R0 (.returned v) w') :
    ∀ (n : Nat) (K : List It) (s : S), run E Q vr n K s → ∀ (sv : List Act) (ks : List (Nat × Obj)) (rd : Option Nat) (κ : Kont) (a : Act) (w : World), KRel P w0 (bodyPostM (Wd none) 0 P fn0 R0) K sv ks rd κ → Rl ⟨w0, ks⟩ s a sv w → κ .normal a w := by
  have main : ∀ (N n : Nat), n ≤ N → ∀ (K : List It) (s : S), run E Q vr n K s → ∀ (sv : List Act) (ks : List (Nat × Obj)) (rd : Option Nat) (κ : Kont) (a : Act) (w : World), KRel P w0 (bodyPostM (Wd none) 0 P fn0 R0) K sv ks rd κ → Rl ⟨w0, ks⟩ s a sv w → κ .normal a w := by
    intro N
    induction N with
    | zero => intro n hn K s h; have : n = 0 := by omega
              subst this; exact h.elim
    | succ N ihN =>
      intro n hn K s h sv ks rd κ a w hk hR
      cases n with
      | zero => exact h.elim
      | succ n =>
      have ih : ∀ m, m ≤ n → ∀ (K : List It) (s : S), run E Q vr m K s → ∀ (sv : List Act) (ks : List (Nat × Obj)) (rd : Option Nat) (κ : Kont) (a : Act) (w : World), KRel P w0 (bodyPostM (Wd none) 0 P fn0 R0) K sv ks rd κ → Rl ⟨w0, ks⟩ s a sv w → κ .normal a w := fun m hm => ihN m (by omega)
      have ihn := ih n (Nat.le_refl _)
      have hjump : ∀ {K' : List It} {d : Option Nat} {f : Act → World → Prop}, rendK (run E Q vr n) d false K' s.hp s.saved → Jumps P w0 (bodyPostM (Wd none) 0 P fn0 R0) K' d sv ks rd f → f a w := by
        rintro K' d f hr ⟨c, q, l, ita, sv', ks', κ', rfl, rfl, rfl, hk', hf⟩
        cases hs : s.saved with
        | nil => rw [hs] at hr; exact hr.elim
        | cons fr svs =>
          rw [hs] at hr
          have hat := rl_record_at hR
          have hend := run_endRound (P := P) (some c) hat
          have h2 := rl_pop hs (rl_record (lp' := q.at .done (some c)) hR)
          exact hf a w _ _ hend (ihn _ _ hr sv' _ _ _ _ _ hk' (put_rel h2 d fun _ _ _ => .x _ _ (.bool _)))
      cases K with
      | nil =>
        cases hk
        rw [r_end] at h
        cases hv : resVals s vr with
        | none => rw [hv] at h; exact h.elim
        | some x =>
          obtain ⟨p, vs⟩ := x
          rw [hv] at h
          obtain ⟨ms, hms⟩ := rl_marks hR
          refine leaves_ok ms hms hR fun w' hR' => ?_
          obtain ⟨bs, hf, hsv, hH, hb, hoth⟩ := hR'
          obtain ⟨v, h1, h2⟩ := results_ok (P := P) hf hH hres hv h.1
          exact ⟨v, h1, hR0 _ _ _ _ _ h.2 h2 hH hb⟩
      | cons x K =>
      cases x with
      | inBlock i =>
        cases hk with | inBlock _ _ _ _ _ κ hk => exact ihn _ _ h sv _ _ κ a w hk hR
      | inLoop I =>
        cases hk with | inLoop _ J _ _ _ _ κ hJ hk => exact hJ s a w h hR
      | frame d res =>
        cases hk with
        | frame _ _ fn sa _ sv _ rd κ R hr hRR hk =>
          rw [r_frame] at h
          cases hv : resVals s res with
          | none => rw [hv] at h; exact h.elim
          | some x =>
            obtain ⟨p, vs⟩ := x
            rw [hv] at h
            cases hs : s.saved with
            | nil => rw [hs] at h; exact h.elim
            | cons fr sv' =>
              rw [hs] at h
              obtain ⟨ms, hms⟩ := rl_marks hR
              refine leaves_ok ms hms hR fun w' hR' => ?_
              obtain ⟨bs, hf, hsv, hH, hb, hoth⟩ := id hR'
              obtain ⟨v, h1, h2⟩ := results_ok (P := P) hf hH hr hv h.1
              refine ⟨v, h1, hRR v w' (ihn _ _ h.2 sv _ _ κ _ w' hk ?_)⟩
              obtain ⟨bs2, k1, k2, k3, k4, k5⟩ := rl_pop hs hR'
              rw [hs] at hsv
              cases hsv with
              | cons _ _ _ _ g1 g2 =>
                have hp := rl_pop hs hR'
                refine ⟨bs, put_rep (s := { fr := fr, saved := sv', hp := s.hp }) (a := sa) g1 h2, ?_, ?_, hb, ?_⟩
                · rw [put_saved]; exact g2
                · rw [put_hp]; exact hH
                · rw [List.map_cons, put_defers']
                  exact hoth.pop
      | rfrm res l ps va vb j =>
        cases hk with
        | rfrm _ _ q lp _ _ _ fn sa _ sv ks rd κ hr _ hps htm hva hvb hj hk =>
          rw [r_rfrm] at h
          cases hv : resVals s res with
          | none => rw [hv] at h; exact h.elim
          | some x =>
            obtain ⟨p, vs⟩ := x
            rw [hv] at h
            cases hs : s.saved with
            | nil => rw [hs] at h; exact h.elim
            | cons fr sv' =>
              rw [hs] at h
              obtain ⟨hp, h⟩ := h
              obtain ⟨ms, hms⟩ := rl_marks hR
              refine leaves_ok ms hms hR fun w' hR' => ?_
              obtain ⟨bs, hf, hsv, hH, hb, hoth⟩ := id hR'
              obtain ⟨v, h1, h2⟩ := results_ok (P := P) hf hH hr hv hp
              have hat := rl_record_at hR'
              cases hj with
              | none =>
                refine ⟨v, h1, none, _, run_endLoop hat (by simp [Rec.at]), ?_⟩
                exact ihn _ _ h sv _ _ κ sa _ hk (rl_forget (rl_record (rl_pop hs hR')))
              | some c vc hc =>
                refine ⟨v, h1, some c, _, run_endLoop hat (by simp [Rec.at]), ?_⟩
                exact ihn _ _ h sv _ _ _ sa _ (.code c vc K sv ks rd κ hc hk) (rl_forget (rl_record (rl_pop hs hR')))
      | rbeg =>
        cases hk with
        | rbeg l q _ _ ks κ hk =>
          exact ⟨_, run_beginRound (rl_record_at hR) rfl, ihn _ _ h sv _ _ κ a _ hk (rl_record hR)⟩
      | rend d =>
        cases hk with
        | rend _ l q ita _ sv ks κ R hRR hk =>
          rw [r_rend] at h
          cases hs : s.saved with
          | nil => rw [hs] at h; exact h.elim
          | cons fr sv' =>
            rw [hs] at h
            refine ⟨_, _, run_endRound none (rl_record_at hR), hRR _ _ (ihn _ _ h sv _ _ κ _ _ hk ?_)⟩
            exact put_rel (rl_pop hs (rl_record (lp' := q.at .ready none) hR)) d fun _ _ _ => .x _ _ (.bool _)
      | dops l => cases hk
      | res g al d c => cases hk
      | ops l =>
        cases hk with
        | ops all rest _ _ _ _ _ κ hl hk =>
        show wpListIn (Wd rd) 0 P all κ rest a w
        cases l with
        | nil => rw [vopsOf_nil hl]; exact ihn _ _ h sv _ _ κ a w hk hR
        | cons v l =>
          obtain ⟨o, r, rfl, hvo, hlr⟩ := vopsOf_cons hl
          obtain ⟨ops, h1, h2, h3, h4, h5⟩ := vopOf_inv hvo
          obtain ⟨dst, g, op, xs⟩ := v
          simp only at h1 h2 h3 h4 h5
          subst h4
          have hnd := vop_nodefer h1
          have hx : ∀ bs, RepL w bs w0.heap.size s.fr a.tmps.toList → RepL w bs w0.heap.size (s.args xs) (ops.map a.eval) := fun bs hf => X_ofs hf h2
          rcases h5 with ⟨hg, rfl⟩ | ⟨j, pol, gs, hg, hsl, rfl⟩
          · rw [r_op] at h
            exact wpList_op (by simp [Region.wanted, hg]) (op_sound hE ih h1 h3 hlr hx h hk hR)
          · rw [r_opg] at h
            have hKr : KRel P w0 (bodyPostM (Wd none) 0 P fn0 R0) (.ops l :: K) sv ks rd (Exit.then (wpListIn (Wd rd) 0 P all κ r) κ) := .ops all r l K sv ks rd κ hlr hk
            cases hgd : guardOf (getL s.fr gs) pol with
            | none => rw [hgd] at h; exact h.elim
            | some gb =>
              rw [hgd, r_g] at h
              obtain ⟨bs, hf, hsv, hH, hb, hoth⟩ := id hR
              have hw := guard_ok (w := w) hf hg hsl hgd
              have hB : w0.heap.size ≤ w.heap.size := hb.size
              cases hq : op.quiet with
              | true =>
                rw [hq] at h
                simp only [gK] at h
                cases he : eff s.hp (lenH s.hp) op (unoptsO op gb (s.args xs)).2 with
                | none => rw [he] at h; exact h.elim
                | some e =>
                  rw [he] at h
                  obtain ⟨q, val, u⟩ := e
                  cases u <;> try exact h.elim
                  obtain ⟨hp1, hp2, hrun⟩ := h
                  cases gb with
                  | true =>
                    obtain ⟨r', v, w', bs', hrn, hr, k1, k2, k3, k4, k5⟩ := vop_ok (ρ := a.eval) h1 he (hp2 rfl) (unoptsO_ok rfl (hx bs hf) hp1) (fun _ => rfl) (fun _ => rfl) hH hB
                    refine wpList_op hw (wp_of_run hnd (hrn o.dst o.type o.pos o.after o.guard) hr ?_)
                    refine ihn _ _ hrun sv _ _ _ _ _ hKr ?_
                    exact upd_rel (e := ⟨q, .opt true val, .no⟩) (op := o.op) hf hsv hb hoth (.optT _ _ k1) k2 k3 k4 k5 o.dst
                  | false =>
                    exact wpList_not hw (ihn _ _ hrun sv _ _ _ _ _ hKr (put_rel hR o.dst fun _ _ _ => .optF _))
              | false =>
                rw [hq] at h
                simp only [gK, callG] at h
                cases hct : ctOf E op with
                | none =>
                  rw [hct] at h
                  obtain ⟨hp1, ht, hfl⟩ := h
                  cases gb with
                  | true => exact wpList_op hw (op_sound hE ih h1 h3 hlr (fun bs hf => unoptsO_ok rfl (hx bs hf) hp1) (ht rfl) hk hR)
                  | false => exact wpList_not hw (ihn _ _ (hfl rfl) sv _ _ _ _ _ hKr (put_rel hR o.dst fun _ _ _ => .x _ _ (.junk _)))
                | some c =>
                  rw [hct] at h
                  obtain ⟨hp1, hrun⟩ := h
                  obtain ⟨m, rr, hm, hrun', hcs⟩ := run_resG n hrun
                  cases gb with
                  | false => exact wpList_not hw (ih m (by omega) _ _ hrun' sv _ _ _ _ _ hKr (put_rel hR o.dst fun _ _ _ => .optF _))
                  | true =>
                    cases op <;> try (cases hct; done)
                    rename_i f
                    obtain ⟨hok, hen⟩ := hE.ct f c hct
                    obtain ⟨vs, hys, hrn⟩ := call_ok (ys := (unoptsO _ true (s.args xs)).2) hE.meth h1 (h3 rfl) rfl (unoptsO_ok rfl (hx bs hf) hp1) (fun _ => rfl) hen
                    refine wpList_op hw (wp_of_enter hnd hrn ?_)
                    refine (hok _ vs w _ (viewN_ok hH 3 hys) (hcs rfl)).mono ?_
                    rintro e w' ⟨r', hs, v, bs2, ⟨rfl, rfl, hal⟩, rfl, k1, k2, k3, k4⟩
                    have hcr := call_rel (f := f) (c := c) (d := o.dst) hR k1 k2 k3 k4 hal (.opt true (shift (lenH s.hp) r')) fun _ h => .optT _ _ h
                    refine ih m (by omega) _ _ hrun' sv _ _ _ _ _ hKr ?_
                    have e0 : ({ fr := s.fr, saved := s.saved, hp := s.hp ++ shiftH (lenH s.hp) [] } : S) = s := by simp [shiftH]
                    rw [e0] at hcr
                    exact hcr
      | code c =>
        cases hk with
        | code cc _ _ _ _ _ κ hcode hk =>
        show cc.wpIn (Wd rd) 0 P κ a w
        cases cc <;> simp only [vcode, reduceCtorEq] at hcode <;> try (cases hcode; exact h.elim)
        case skip => cases hcode; exact wpIn_skip (ihn _ _ h sv _ _ κ a w hk hR)
        case region id ops draw =>
          cases draw with
          | true =>
            simp only [if_true] at hcode
            cases hd : drawOf P ops with
            | none => rw [hd] at hcode; cases hcode; exact h.elim
            | some r =>
            obtain ⟨al, dl⟩ := r
            rw [hd] at hcode
            cases hcode
            exact draw_sound hE hE.mix hd (dops_run dl n h) hR fun s' a' w' ⟨m, hm, hrun⟩ hR' => ih m (by omega) _ _ hrun sv _ _ κ a' w' hk hR'
          | false =>
            simp only [Bool.false_eq_true, if_false] at hcode
            cases hl : vopsOf P ops ops.toList with
            | none => rw [hl] at hcode; cases hcode; exact h.elim
            | some l =>
            rw [hl] at hcode
            cases hcode
            exact wpIn_region_list (ihn _ _ h sv _ _ _ a w (.ops ops ops.toList l K sv ks rd κ hl hk) hR)
        case seq x y =>
          obtain ⟨vx, hx, hcode⟩ := Option.bind_eq_some_iff.1 hcode
          obtain ⟨vy, hy, rfl⟩ := Option.map_eq_some_iff.1 hcode
          exact wpIn_seq (ihn _ _ h sv _ _ _ a w (.code x vx _ sv ks rd _ hx (.code y vy K sv ks rd κ hy hk)) hR)
        case cond cnd x y =>
          obtain ⟨z, hz, hcode⟩ := Option.bind_eq_some_iff.1 hcode
          obtain ⟨vx, hx, hcode⟩ := Option.bind_eq_some_iff.1 hcode
          obtain ⟨vy, hy, rfl⟩ := Option.map_eq_some_iff.1 hcode
          rw [r_cond] at h
          obtain ⟨bs, hf, hsv, hH, hb, hoth⟩ := id hR
          have hrep := X_of (w := w) hf hz
          generalize s.x z = v at h hrep
          cases v <;> try exact h.elim
          rename_i b
          have hb1 := hrep.bool_inv
          obtain ⟨ht, hfl⟩ := h
          refine wpIn_cond_split hb1 (fun hb => ihn _ _ (ht hb) sv _ _ _ a w (.code x vx K sv ks rd κ hx hk) hR) (fun hb => ihn _ _ (hfl hb) sv _ _ _ a w (.code y vy K sv ks rd κ hy hk) hR)
        case block id c =>
          obtain ⟨vc, hc, rfl⟩ := Option.map_eq_some_iff.1 hcode
          exact wpIn_block (ihn _ _ h sv _ _ _ a w (.code c vc _ sv ks rd _ hc (.inBlock id K sv ks rd κ hk)) hR)
        case loop c =>
          obtain ⟨vc, hc, rfl⟩ := Option.map_eq_some_iff.1 hcode
          obtain ⟨σ, head, inv, μ, ⟨x0, hx0, hle0⟩, hround⟩ := h
          refine wpIn_loop_ghost (fun k a w => ∃ x, μ x = k ∧ inv x ∧ Rl ⟨w0, ks⟩ (head x) a sv w) (μ x0) ⟨x0, rfl, hx0, leS_ok hle0 hR⟩ ?_
          rintro k a w ⟨x, rfl, hx, hRx⟩
          exact ihn _ _ (hround x hx) sv _ _ _ a w (.code c vc _ sv ks rd _ hc (.inLoop _ _ K sv ks rd κ (by
            rintro s' a' w' ⟨y, hy, hlt, hle⟩ hR'
            exact ⟨μ y, hlt, y, rfl, hy, leS_ok hle hR'⟩) hk)) hRx
        case exit id =>
          cases hcode
          rw [r_exit] at h
          cases hp : popTo id K with
          | no => rw [hp] at h; exact h.elim
          | go K' =>
            rw [hp] at h
            obtain ⟨κ', h1, h2⟩ := popTo_ok hp hk
            exact wpIn_exit (h2 _ _ (ihn _ _ h sv _ _ κ' a w h1 hR))
          | jump d K' =>
            rw [hp] at h
            exact wpIn_exit (hjump h (popTo_jump hp hk))
        case ret =>
          cases hcode
          rw [r_ret] at h
          cases hp : popRet K with
          | no => rw [hp] at h; exact h.elim
          | go K' =>
            rw [hp] at h
            obtain ⟨κ', h1, h2⟩ := popRet_ok hp hk
            exact wpIn_ret (h2 _ _ (ihn _ _ h sv _ _ κ' a w h1 hR))
          | jump d K' =>
            rw [hp] at h
            exact wpIn_ret (hjump h (popRet_jump hp hk))
        case rangeFunc g ps ca cb =>
          obtain ⟨z, hz, hcode⟩ := Option.bind_eq_some_iff.1 hcode
          obtain ⟨va, hva, hcode⟩ := Option.bind_eq_some_iff.1 hcode
          obtain ⟨vb, hvb, rfl⟩ := Option.map_eq_some_iff.1 hcode
          rw [r_range] at h
          obtain ⟨bs, hf, hsv, hH, hb, hoth⟩ := id hR
          have hrep := X_of (w := w) hf hz
          generalize s.x z = v at h hrep
          unfold rangeK at h
          split at h
          · rename_i gf us cs
            unfold rangeE at h
            cases hfn : E.fn gf with
            | none => rw [hfn] at h; exact h.elim
            | some vf =>
              rw [hfn] at h
              obtain ⟨hnr, h⟩ := h
              have hrd := notRound_ok hnr hk
              subst hrd
              obtain ⟨fn, hfs, hvf, hen⟩ := hE.fn gf vf hfn
              obtain ⟨c, hbody, hcode, hres', hnt⟩ := vfunc_inv hvf
              obtain ⟨uv, cv, hgv, g1, g2⟩ := hrep.fn_inv
              refine wpIn_rangeFunc fun fr _ => ?_
              have hB : w0.heap.size ≤ w.heap.size := hb.size
              obtain ⟨q, hq⟩ : ∃ q : Rec, q = { fn := fr, ps := ps.toList, ca := ca, cb := cb, D := w.heap.size, tmps := a.tmps } := ⟨_, rfl⟩
              obtain ⟨W1, hW1⟩ : ∃ W1, W1 = (w.alloc (.deferred (some []))).alloc (.loop (q.at .ready none)) := ⟨_, rfl⟩
              have hent : (Instr.enterLoop fr a.tmps ps ca cb (Wd none).round).run P w = .ok (w.heap.size + 1, [mark w.heap.size]) W1 := by
                rw [hW1, hq]
                exact run_enterLoop_outer _ _ _ _ _
              refine ⟨w.heap.size + 1, [mark w.heap.size], W1, { target := .fn (.func gf) cv.toArray, args := uv.toArray ++ #[.func (.yield (w.heap.size + 1)) #[] #[]] }, W1, gf, (uv ++ (.func (.yield (w.heap.size + 1)) #[] #[] :: cv)).toArray, W1,
                hent, ?_, fun _ _ => trivial, ?_, fun h => (by cases h), ?_⟩
              · simp only [resolve, hgv, Deferred.ofValue, Sem.run_bind, Sem.run_pure, Result.andThen_ok]
                simp [Act.eval]
              · simp only [invoke, run_callFunc hen]
                simp
              · refine in_frame (b := vf.body) hfs hbody ?_
                refine ihn _ _ (h (w.heap.size + 1)) ({ a with defers := [mark w.heap.size] ++ a.defers } :: sv) _ _ _ { tmps := _, defers := [] } _ (.code c vf.body _ _ _ _ _ hcode (.rfrm vf.res _ q (q.at .ready none) va vb none fn _ _ _ _ _ _ hres' ps.toList (by rw [hq]) (by rw [hq]) (by rw [hq]; exact hva) (by rw [hq]; exact hvb) .none hk)) ?_
                rw [hW1]
                refine rl_enter hf hsv hH hb hoth ?_
                have hy : Rep w bs w0.heap.size (.fn (.yield (w.heap.size + 1)) [] []) (.func (.yield (w.heap.size + 1)) #[] #[]) := .x _ _ (.fn _ [] [] [] [] .nil .nil)
                have := padL_ok (n := fn.ntmps) (g1.append (.cons _ _ _ _ hy g2))
                rw [hnt]
                simpa using this
          · exact h.elim
  exact fun n => main n n (Nat.le_refl _)

end
end Go.Vx
