/- The executor is sound: the theorem. -/
import Derived.Test.YtdognchniaojoaaVx9
set_option linter.all false
namespace Go.Vx
open Go.RowKit
section
variable {P : Program} {E : Env} {Q : SV → List HO → Prop} {vr : List VR} {w0 : Cx}

theorem X_of {s : S} {a : Act} {bs : List BK} {B : Nat} {w : World} (hf : RepL w bs B s.fr a.tmps.toList) {o : Operand} {x : X} (h : X.of o = some x) : Rep w bs B (s.x x) (a.eval o) := by
  cases o with
  | tmp t =>
    simp only [X.of, Option.some.injEq] at h; subst h
    have := hf.get t (d := undef)
    simpa [S.x, Act.eval, Array.getD_eq_getD_getElem?, List.getD] using this
  | const v =>
    simp only [X.of, Option.some.injEq] at h; subst h
    have hcell : ∀ u : Value, Rep w bs B (cellOf u) u := by
      intro u
      unfold cellOf
      split <;> exact .x _ _ (by constructor)
    have hcells : ∀ l : List Value, RepL w bs B (l.map cellOf) l := by
      intro l
      induction l with
      | nil => exact .nil
      | cons u l ih => exact .cons _ _ _ _ (hcell u) ih
    show Rep w bs B (svOf v) v
    unfold svOf
    split
    · rename_i cs
      have := Rep.agg _ _ (hcells cs.toList)
      simpa using this
    · exact hcell v
  | func f => simp only [X.of, Option.some.injEq] at h; subst h; exact .x _ _ (.fn _ [] [] [] [] .nil .nil)
  | global g => simp [X.of] at h

theorem X_ofs {s : S} {a : Act} {bs : List BK} {B : Nat} {w : World} (hf : RepL w bs B s.fr a.tmps.toList) : ∀ {os : List Operand} {xs : List X}, X.ofs os = some xs → RepL w bs B (s.args xs) (os.map a.eval)
  | [], xs, h => by simp only [X.ofs, Option.some.injEq] at h; subst h; exact .nil
  | o :: os, xs, h => by
    simp only [X.ofs] at h
    obtain ⟨y, hy, h⟩ := Option.bind_eq_some_iff.1 h
    obtain ⟨ys, hys, rfl⟩ := Option.map_eq_some_iff.1 h
    exact .cons _ _ _ _ (X_of hf hy) (X_ofs hf hys)

theorem unopts_ok {bs : List BK} {B : Nat} {w : World} {gb : Bool} (hg : gb = true) : ∀ {l : List SV} {vs : List Value}, RepL w bs B l vs → (unopts gb l).1 → RepL w bs B (unopts gb l).2 vs
  | _, _, .nil, _ => .nil
  | _, _, .cons x v l vs h h', hp => by
    refine .cons _ _ _ _ ?_ (unopts_ok hg h' hp.2)
    have hp1 := hp.1
    cases x <;> try exact h
    rename_i b y
    have hb := hp1 hg
    subst hb
    cases h with
    | x _ _ h => cases h
    | optT _ _ h => exact h

theorem unopt_ok {bs : List BK} {B : Nat} {w : World} {gb : Bool} (hg : gb = true) {x : SV} {v : Value} (h : Rep w bs B x v) (hp1 : (unopt gb x).1) : Rep w bs B (unopt gb x).2 v := by
  cases x <;> try exact h
  rename_i b y
  have hb := hp1 hg
  subst hb
  cases h with
  | x _ _ h => cases h
  | optT _ _ h => exact h

theorem unoptsO_ok {bs : List BK} {B : Nat} {w : World} {gb : Bool} {o : VO} (hg : gb = true) {l : List SV} {vs : List Value} (h : RepL w bs B l vs) (hp : (unoptsO o gb l).1) : RepL w bs B (unoptsO o gb l).2 vs := by
  unfold unoptsO unoptsB at *
  split at hp
  · exact unopts_ok hg h hp
  · split at hp
    · cases h with
      | cons _ v _ vs h1 h2 => exact .cons _ _ _ _ (unopt_ok hg h1 hp) h2
    · exact unopts_ok hg h hp

theorem put_rep {s : S} {a : Act} {bs : List BK} {B : Nat} {w : World} (hf : RepL w bs B s.fr a.tmps.toList) {d : Option Nat} {x : SV} {v : Value} (hx : Rep w bs B x v) : RepL w bs B (s.put d x).fr (a.put d v).tmps.toList := by
  cases d with
  | none => exact hf
  | some d =>
    show RepL w bs B (setL s.fr d x) (a.tmps.setIfInBounds d v).toList
    rw [Array.toList_setIfInBounds]
    exact hf.set d hx

theorem put_saved (s : S) (d : Option Nat) (x : SV) : (s.put d x).saved = s.saved := by cases d <;> rfl
theorem put_hp (s : S) (d : Option Nat) (x : SV) : (s.put d x).hp = s.hp := by cases d <;> rfl
theorem put_defers' (a : Act) (d : Option Nat) (v : Value) : (a.put d v).defers = a.defers := by cases d <;> rfl

/-- Behind an operation. -/
theorem upd_rel {s : S} {a : Act} {sv : List Act} {w : World} {bs : List BK} {e : Ef} {op : Op} (hf : RepL w bs w0.heap.size s.fr a.tmps.toList) (hs : RepLL w bs w0.heap.size s.saved (sv.map (·.tmps.toList))) (hb : Below w0.heap.size w0.toWorld w) (ho : Oth w bs w0.heap.size w0.ks ((a :: sv).map (·.defers)))
    {w' : World} {bs' : List BK} {v : Value} (hr : Rep w' bs' w0.heap.size e.val v) (hH : Hp w' bs' w0.heap.size (updH s.hp e.upd)) (hk : Keeps w bs w' bs') (hst : Stays (updE e.upd) bs bs') (hbb : Below w0.heap.size w w') (d : Option Nat) :
    Rl w0 ((s.upd e.upd).put d e.val) (a.put d v) sv w' := by
  refine ⟨bs', ?_, ?_, ?_, hb.trans hbb, by rw [List.map_cons, put_defers']; exact ho.keep hk⟩
  · refine put_rep ?_ hr
    cases hu : e.upd <;> rw [hu] at hst <;> simp only [S.upd]
    · exact hf.keep hk hst noRefL_none
    · exact hf.keep hk hst noRefL_none
    · exact hf.keep hk hst noRefL_none
    · exact purge_repL hk hst hf
  · rw [put_saved]
    cases hu : e.upd <;> rw [hu] at hst <;> simp only [S.upd]
    · exact hs.keep hk hst
    · exact hs.keep hk hst
    · exact hs.keep hk hst
    · exact purge_repLL hk hst hs
  · rw [put_hp]
    cases hu : e.upd <;> rw [hu] at hH <;> simpa [S.upd, updH] using hH

/-! ### Calls -/

theorem vop_call {o : Oper} {vo : VO} {ops : List Operand} (h : vop P o = some (vo, ops)) (hc : opIsCall o.op = true) (hvc : vo.isCall = true) : ∃ c : Call, o.op = .call c ∧
    ((∃ f, vo = .call f ∧ c.callee = .value (.func f) ∧ ops = c.args.toList) ∨ (∃ x, vo = .callv ∧ c.callee = .value x ∧ ops = x :: c.args.toList) ∨ (∃ x m, vo = .invoke m ∧ c.callee = .invoke x m)) := by
  obtain ⟨dst, op, type, pos, after, guard⟩ := o
  cases op <;> try (cases hc; done)
  rename_i c
  refine ⟨c, rfl, ?_⟩
  simp only [opIsCall] at hc
  unfold vop at h
  simp only at h
  cases hcal : c.callee with
  | builtin b => rw [hcal] at hc; cases hc
  | invoke x m => rw [hcal] at h; cases h; exact .inr (.inr ⟨_, _, rfl, rfl⟩)
  | value x =>
    rw [hcal] at h
    cases x with
    | func f =>
      simp only at h
      split at h
      · cases h; cases hvc
      · cases h; exact .inl ⟨_, rfl, rfl, rfl⟩
    | tmp t => cases h; exact .inr (.inl ⟨_, rfl, rfl, rfl⟩)
    | const v => cases h; exact .inr (.inl ⟨_, rfl, rfl, rfl⟩)
    | global g => cases h; exact .inr (.inl ⟨_, rfl, rfl, rfl⟩)

theorem call_ok {ρ : Operand → Value} {o : Oper} {vo : VO} {ops : List Operand} {xs ys : List SV} {f : FuncId} {w : World} {bs : List BK} {B : Nat} (hm : ∀ t m, E.meth t m = none) (hv : vop P o = some (vo, ops)) (hcall : opIsCall o.op = true) (hc : callee E vo xs = some (f, ys)) (hx : RepL w bs B xs (ops.map ρ))
    (hρ : ∀ f, ρ (.func f) = .func (.func f) #[] #[]) (hen : Enterable P f) : ∃ vs : List Value, RepL w bs B ys vs ∧ (execOp ρ o).run P w = .ok (.enter f vs.toArray) w := by
  obtain ⟨c, hop, h⟩ := vop_call hv hcall (by unfold callee at hc; split at hc <;> first | rfl | cases hc)
  obtain ⟨dst, op, type, pos, after, guard⟩ := o
  simp only at hop
  subst hop
  rcases h with ⟨g, rfl, hcal, rfl⟩ | ⟨x, rfl, hcal, rfl⟩ | ⟨x, m, rfl, hcal⟩
  · simp only [callee, Option.some.injEq, Prod.mk.injEq] at hc
    obtain ⟨rfl, rfl⟩ := hc
    refine ⟨c.args.toList.map ρ, hx, ?_⟩
    have e : (c.args.toList.map ρ).toArray = #[] ++ c.args.map ρ ++ #[] := by apply Array.ext'; simp
    rw [e]
    simp only [execOp, resolve, hcal, hρ, Deferred.ofValue, Sem.run_bind, Sem.run_pure, Result.andThen_ok, invoke, run_callFunc hen]
  · simp only [callee] at hc
    cases xs with
    | nil => cases hc
    | cons fv l =>
      simp only at hc
      unfold callArgs at hc
      split at hc
      · rename_i g a b
        simp only [Option.some.injEq, Prod.mk.injEq] at hc
        obtain ⟨rfl, rfl⟩ := hc
        obtain ⟨v, vs, hvs, h1, h2⟩ := hx.cons_inv
        simp only [List.map_cons, List.cons.injEq] at hvs
        obtain ⟨hv1, rfl⟩ := hvs
        obtain ⟨us, us', rfl, h3, h4⟩ := h1.fn_inv
        refine ⟨us ++ (c.args.toList.map ρ ++ us'), h3.append (h2.append h4), ?_⟩
        have e : (us ++ (c.args.toList.map ρ ++ us')).toArray = us.toArray ++ c.args.map ρ ++ us'.toArray := by apply Array.ext'; simp
        rw [e]
        simp only [execOp, resolve, hcal, hv1, Deferred.ofValue, Sem.run_bind, Sem.run_pure, Result.andThen_ok, invoke, run_callFunc hen]
      · cases hc
  · simp only [callee] at hc
    split at hc
    · rw [hm] at hc; cases hc
    · cases hc

theorem padL_ok {w : World} {bs : List BK} {B : Nat} : ∀ {n : Nat} {xs : List SV} {vs : List Value}, RepL w bs B xs vs → RepL w bs B (padL n xs) (vs ++ List.replicate (n - vs.length) undef)
  | n, _, _, .nil => by
    have : ∀ n, RepL w bs B (blankL n) (List.replicate n undef) := by
      intro n
      induction n with
      | zero => exact .nil
      | succ n ih => exact .cons _ _ _ _ (.x _ _ (.junk _)) ih
    have e : padL n [] = blankL n := by cases n <;> rfl
    rw [e]; simpa using this n
  | 0, _, _, .cons x v l vs h h' => by simpa [padL] using RepL.cons x v l vs h h'
  | n + 1, _, _, .cons x v l vs h h' => by
    have := padL_ok (n := n) h'
    simpa [padL] using RepL.cons x v _ _ h this

/-! ### What came with a result -/

theorem free_app {bs bs2 : List BK} {b : Nat} (h : Free bs b) (h2 : Free bs2 b) : Free (bs ++ bs2) b := by
  intro i b' c n hi
  rw [List.getElem?_append] at hi
  split at hi
  · exact h _ _ _ _ hi
  · exact h2 _ _ _ _ hi

section
variable {w : World} {bs bs2 : List BK} {B B2 : Nat}

/-- Either nothing was the caller's own, or the value leads into new memory alone. -/
def Apart (bs : List BK) (p : Prop) : Prop := bs = [] ∨ p

mutual
theorem xshift_ok {d : Nat} (hB : B ≤ B2) (hlo : ∀ (i b c n : Nat), bs[i]? = some (.blk b c n) → b < B2) : ∀ {s : SV} {v : Value}, XRep w bs2 B2 s v → Apart bs (freshS s) → XRep w (bs ++ bs2) B (shift d s) v
  | _, _, .int k n, _ => .int k n
  | _, _, .bool b, _ => .bool b
  | _, _, .val v, _ => .val v
  | _, _, .nil, _ => .nil
  | _, _, .junk v, _ => .junk v
  | _, _, .agg cs vs h, hf => .agg _ vs (xshiftL_ok hB hlo h hf)
  | _, _, .tup cs vs h, hf => .tup _ vs (xshiftL_ok hB hlo h hf)
  | _, _, .fn f fs cs us vs h h', hf => .fn f _ _ us vs (xshiftL_ok hB hlo h (hf.imp id And.left)) (xshiftL_ok hB hlo h' (hf.imp id And.right))
  | _, _, .iface t x v h, hf => .iface t _ v (xshift_ok hB hlo h hf)
  | _, _, .vs t z n size get a cap vals hz hc hn hcell h, hf => .vs t z n size get a cap vals hz hc hn
      (fun k hk => by
        obtain ⟨ad, h1, h2, h3, h4, h5, h6⟩ := hcell k hk
        refine ⟨ad, h1, h2, ?_, fun ht => Nat.le_trans hB (h4 ht), h5, h6⟩
        rcases hf with rfl | hf
        · simpa using h3
        · exact free_app (fun i b c m hi he => by have := hlo i b c m hi; have := h4 hf.1; omega) h3)
      (fun k hk => xsame_ok hB hlo (h k hk) (hf.imp id fun hf => hf.2 k hk))
  | _, _, .xp t cs ad vals hs hfr ht hc h, hf => .xp t cs ad vals hs
      (by
        rcases hf with rfl | hf
        · simpa using hfr
        · exact free_app (fun i b c m hi he => by have := hlo i b c m hi; have := ht hf.1; omega) hfr)
      (fun h => Nat.le_trans hB (ht h)) hc (xsame_ok hB hlo h (hf.imp id And.right))
theorem xshiftL_ok {d : Nat} (hB : B ≤ B2) (hlo : ∀ (i b c n : Nat), bs[i]? = some (.blk b c n) → b < B2) : ∀ {l : List SV} {vs : List Value}, XRepL w bs2 B2 l vs → Apart bs (freshL l) → XRepL w (bs ++ bs2) B (shiftL d l) vs
  | _, _, .nil, _ => .nil
  | _, _, .cons x v l vs h h', hf => .cons _ v _ vs (xshift_ok hB hlo h (hf.imp id And.left)) (xshiftL_ok hB hlo h' (hf.imp id And.right))
theorem xsame1_ok (hB : B ≤ B2) (hlo : ∀ (i b c n : Nat), bs[i]? = some (.blk b c n) → b < B2) : ∀ {s : SV} {v : Value}, XRep w bs2 B2 s v → Apart bs (freshS s) → XRep w (bs ++ bs2) B s v
  | _, _, .int k n, _ => .int k n
  | _, _, .bool b, _ => .bool b
  | _, _, .val v, _ => .val v
  | _, _, .nil, _ => .nil
  | _, _, .junk v, _ => .junk v
  | _, _, .agg cs vs h, hf => .agg _ vs (xsame_ok hB hlo h hf)
  | _, _, .tup cs vs h, hf => .tup _ vs (xsame_ok hB hlo h hf)
  | _, _, .fn f fs cs us vs h h', hf => .fn f _ _ us vs (xsame_ok hB hlo h (hf.imp id And.left)) (xsame_ok hB hlo h' (hf.imp id And.right))
  | _, _, .iface t x v h, hf => .iface t _ v (xsame1_ok hB hlo h hf)
  | _, _, .vs t z n size get a cap vals hz hc hn hcell h, hf => .vs t z n size get a cap vals hz hc hn
      (fun k hk => by
        obtain ⟨ad, h1, h2, h3, h4, h5, h6⟩ := hcell k hk
        refine ⟨ad, h1, h2, ?_, fun ht => Nat.le_trans hB (h4 ht), h5, h6⟩
        rcases hf with rfl | hf
        · simpa using h3
        · exact free_app (fun i b c m hi he => by have := hlo i b c m hi; have := h4 hf.1; omega) h3)
      (fun k hk => xsame_ok hB hlo (h k hk) (hf.imp id fun hf => hf.2 k hk))
  | _, _, .xp t cs ad vals hs hfr ht hc h, hf => .xp t cs ad vals hs
      (by
        rcases hf with rfl | hf
        · simpa using hfr
        · exact free_app (fun i b c m hi he => by have := hlo i b c m hi; have := ht hf.1; omega) hfr)
      (fun h => Nat.le_trans hB (ht h)) hc (xsame_ok hB hlo h (hf.imp id And.right))
theorem xsame_ok (hB : B ≤ B2) (hlo : ∀ (i b c n : Nat), bs[i]? = some (.blk b c n) → b < B2) : ∀ {l : List SV} {vs : List Value}, XRepL w bs2 B2 l vs → Apart bs (freshL l) → XRepL w (bs ++ bs2) B l vs
  | _, _, .nil, _ => .nil
  | _, _, .cons x v l vs h h', hf => .cons _ v _ vs (xsame1_ok hB hlo h (hf.imp id And.left)) (xsame_ok hB hlo h' (hf.imp id And.right))
end

theorem app_get {i : Nat} {x : BK} (h : bs2[i]? = some x) : (bs ++ bs2)[bs.length + i]? = some x := by
  rw [List.getElem?_append_right (by omega)]; simpa using h

mutual
theorem shift_ok (hB : B ≤ B2) (hlo : ∀ (i b c n : Nat), bs[i]? = some (.blk b c n) → b < B2) : ∀ {s : SV} {v : Value}, Rep w bs2 B2 s v → Apart bs (freshS s) → Rep w (bs ++ bs2) B (shift bs.length s) v
  | _, _, .x s v h, hf => .x _ v (xshift_ok hB hlo h hf)
  | _, _, .agg cs vs h, hf => .agg _ vs (shiftL_ok hB hlo h hf)
  | _, _, .tup cs vs h, hf => .tup _ vs (shiftL_ok hB hlo h hf)
  | _, _, .fn f fs cs us vs h h', hf => .fn f _ _ us vs (shiftL_ok hB hlo h (hf.imp id And.left)) (shiftL_ok hB hlo h' (hf.imp id And.right))
  | _, _, .iface t x v h, hf => .iface t _ v (shift_ok hB hlo h hf)
  | _, _, .ptr i off b n h, _ => .ptr _ off b n (app_get h)
  | _, _, .own i lo n size b cap m ad h hl ha, _ => .own _ lo n size b cap m ad (app_get h) hl ha
  | _, _, .ownNil i size h, _ => .ownNil _ size (app_get h)
  | _, _, .elem i k off size b cap m h hk, _ => .elem _ k off size b cap m (app_get h) hk
  | _, _, .optT x v h, hf => .optT _ v (shift_ok hB hlo h hf)
  | _, _, .optF x, _ => .optF _
theorem shiftL_ok (hB : B ≤ B2) (hlo : ∀ (i b c n : Nat), bs[i]? = some (.blk b c n) → b < B2) : ∀ {l : List SV} {vs : List Value}, RepL w bs2 B2 l vs → Apart bs (freshL l) → RepL w (bs ++ bs2) B (shiftL bs.length l) vs
  | _, _, .nil, _ => .nil
  | _, _, .cons x v l vs h h', hf => .cons _ v _ vs (shift_ok hB hlo h (hf.imp id And.left)) (shiftL_ok hB hlo h' (hf.imp id And.right))
end

end

end
end Go.Vx
